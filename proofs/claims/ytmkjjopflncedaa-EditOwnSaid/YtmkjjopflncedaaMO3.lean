/- What the code of this statement does, over values that stand for data: an executor of the model's code, that it is sound, and contracts of functions: part 3. No condition is added to the statement. -/
import Derived.Test.YtmkjjopflncedaaMO2
import Derived.Test.YtmkjjopflncedaaProg
import Derived.KernelRfl
import Derived.Shelf.RegionOpenPlain
import Derived.WalkKit
import Derived.Deep.LoopGhost
import Derived.Deep.RegionLaw
import Derived.Lib.Walk
import Derived.Lib.SliceRun
import Derived.Test.YtmkjjopflncedaaChecked
import Derived.Shelf.Strings.BuilderK
import Derived.Lib.AppendZerosOnto
import Derived.Lib.Overlaps
import Derived.Laws.Externs
import Derived.Laws.NewBlocks
import Derived.Deep.AppendLies
import Derived.IntWalk
import Derived.Shelf.Abstract
set_option linter.unusedVariables false
set_option linter.unusedSimpArgs false
section
namespace Go.Proofs.Ytmkjjopflncedaa.AX
open Go Go.RowKit

def tyTab : List (Nat × Ty) := [
  (3, .int), (9, .str), (95, .attr), (53, .node), (60, .edit), (62, .redit), (72, .one), (5, .u8), (22, .nodes), (38, .page), (23, .edits), (109, .pair), (90, .rpair), (58, .ints), (160, .rest), (149, .bld)]
def tyLook : List (Nat × Ty) → Nat → Option Ty
  | [], _ => none
  | (m, t) :: l, n => match Nat.beq m n with
    | true => some t
    | false => tyLook l n
def tyBack : List (Nat × Ty) → Ty → Nat
  | [], _ => 0
  | (m, u) :: l, t => match tyEq t (some u) with
    | true => m
    | false => tyBack l t
/-- Functions that take slices as their own. -/
def ownFns : List Nat := [41, 51, 90, 86, 92]
noncomputable def cxT (T : Nat → List AV → List Blk → Option Ans) : Cx :=
  { P := Try.prog, tyOf := tyLook tyTab, tid := tyBack tyTab, bldT := fun n => Nat.beq n 149, growT := fun n => match Nat.beq n 85 with
    | true => some .edit
    | false => match Nat.beq n 160 with
      | true => some .int
      | false => none, lend := fun f => !hasN ownFns f, chk := true, T := T }
/-- With slices that are read alone behind some regions. -/
noncomputable def cxC (T : Nat → List AV → List Blk → Option Ans) (cold : Nat → List Nat) : Cx := { cxT T with cold := cold }
noncomputable def cx0 : Cx := cxT fun _ _ _ => none

def tyOK (P : Program) : List (Nat × Ty) → Bool
  | [] => true
  | (e, t) :: l => (match P.info? e with
    | none => false
    | some i => Nat.beq i.size (width t) && (match i.zero with
      | some z => Nat.beq z.cells.size (width t)
      | none => false) && Nat.blt 0 i.bytes) && (match P.underlying e with
    | some _ => true
    | none => false) && tyOK P l
theorem tyOK_ok : tyOK Try.prog tyTab = true := by kernel_rfl
theorem tyOK_spec {P : Program} : ∀ {l : List (Nat × Ty)}, tyOK P l = true → ∀ p ∈ l, ∃ i z, P.info? p.1 = some i ∧ i.size = width p.2 ∧ i.zero = some z ∧ z.cells.size = width p.2 ∧ 0 < i.bytes ∧ P.underlying p.1 ≠ none
  | (e, t) :: l, h, p, hp => by
    simp only [tyOK, Bool.and_eq_true] at h
    obtain ⟨⟨h1, h2⟩, h3⟩ := h
    cases hp with
    | tail _ hp => exact tyOK_spec h3 p hp
    | head =>
      show ∃ i z, P.info? e = some i ∧ i.size = width t ∧ i.zero = some z ∧ z.cells.size = width t ∧ 0 < i.bytes ∧ P.underlying e ≠ none
      revert h1
      cases hi : P.info? e with
      | none => intro h1; cases h1
      | some i =>
        intro h1
        simp only [Bool.and_eq_true] at h1
        obtain ⟨⟨h4, h5⟩, h6⟩ := h1
        cases hz : i.zero with
        | none => rw [hz] at h5; cases h5
        | some z =>
          rw [hz] at h5
          refine ⟨i, z, rfl, Nat.eq_of_beq_eq_true h4, hz, Nat.eq_of_beq_eq_true h5, Nat.le_of_ble_eq_true h6, fun e0 => ?_⟩
          rw [e0] at h2; cases h2
theorem tyLook_mem : ∀ {l : List (Nat × Ty)} {e : Nat} {t : Ty}, tyLook l e = some t → (e, t) ∈ l
  | (m, u) :: l, e, t, h => by
    simp only [tyLook] at h
    split at h
    · rename_i hb; injection h with h; subst h; rw [Nat.eq_of_beq_eq_true hb]; exact .head _
    · exact .tail _ (tyLook_mem h)
def backOK (tab : List (Nat × Ty)) : List (Nat × Ty) → Bool
  | [] => true
  | (e, t) :: l => Nat.beq (tyBack tab t) e && backOK tab l
theorem backOK_spec {tab : List (Nat × Ty)} : ∀ {l : List (Nat × Ty)}, backOK tab l = true → ∀ p ∈ l, tyBack tab p.2 = p.1
  | (e, t) :: l, h, p, hp => by
    simp only [backOK, Bool.and_eq_true] at h
    cases hp with
    | head => exact Nat.eq_of_beq_eq_true h.1
    | tail _ hp => exact backOK_spec h.2 p hp
theorem follows_ok : Try.prog.follows .mixedOrders = true := by kernel_rfl
theorem back_ok : backOK tyTab tyTab = true := by kernel_rfl
theorem ty_ok {e : Nat} {t : Ty} (h : tyLook tyTab e = some t) : e = tyBack tyTab t ∧ ∃ i z, Try.prog.info? e = some i ∧ i.size = width t ∧ i.zero = some z ∧ z.cells.size = width t ∧ 0 < i.bytes ∧ Try.prog.underlying e ≠ none := by
  have hm := tyLook_mem h
  have h1 := backOK_spec back_ok (e, t) hm
  have h2 := tyOK_spec tyOK_ok (e, t) hm
  exact ⟨h1.symm, h2⟩
def strField (f : Field) (off : Nat) : Bool := !(f.name == "_") && Nat.beq f.type 9 && Nat.beq f.offset off
def twoF (l : List Field) : Bool :=
  match l with
  | [f, g] => strField f 0 && strField g 1
  | _ => false
theorem str_under : Try.prog.underlying 9 = some .string := by kernel_rfl
theorem attr_two : twoF (Try.prog.fieldsOf 95).toList = true := by kernel_rfl
theorem attr_guard : Try.prog.eqGuardType Try.prog.depth 95 = false := by kernel_rfl
theorem attr_under : Try.prog.underlying 95 = some (.struct (Try.prog.fieldsOf 95)) := by kernel_rfl
theorem attr_held : Try.prog.stoodInHeld 95 = false := by kernel_rfl
theorem str_part {w : World} {cs : Array Value} {off : Nat} {v : Value} (h : cs[off]? = some v) : (part 9 cs off).run Try.prog w = .ok v w := by
  simp [part, isAgg, run_underlying str_under, h]
theorem eqF {l : List Field} (h : twoF l = true) (a b c d : ByteArray) (w : World) : (Op.eqFields 9999 #[.string a, .string b] #[.string c, .string d] l).run Try.prog w = .ok (eqS a c && eqS b d) w := by
  unfold twoF at h
  split at h
  · rename_i f g
    simp only [strField, Bool.and_eq_true, Bool.not_eq_true'] at h
    obtain ⟨⟨⟨h1, h2⟩, h3⟩, ⟨h4, h5⟩, h6⟩ := h
    have n1 : f.name ≠ "_" := by simpa using h1
    have n2 : g.name ≠ "_" := by simpa using h4
    simp only [Op.eqFields, n1, n2, ne_eq, not_false_eq_true, if_true, Nat.eq_of_beq_eq_true h2, Nat.eq_of_beq_eq_true h3, Nat.eq_of_beq_eq_true h5, Nat.eq_of_beq_eq_true h6, Sem.run_bind]
    rw [str_part (v := .string a) rfl]
    simp only [Result.andThen_ok]
    rw [str_part (v := .string c) rfl]
    simp only [Result.andThen_ok]
    rw [run_equalIn_string w 9998 _ a c str_under]
    simp only [Result.andThen_ok]
    unfold eqS
    cases a.toList == c.toList with
    | false => simp
    | true =>
      simp only [Bool.not_true, Bool.false_eq_true, if_false, Sem.run_bind]
      rw [str_part (v := .string b) rfl]
      simp only [Result.andThen_ok]
      rw [str_part (v := .string d) rfl]
      simp only [Result.andThen_ok]
      rw [run_equalIn_string w 9998 _ b d str_under]
      simp only [Result.andThen_ok]
      cases b.toList == d.toList <;> simp
  · cases h
theorem attr_eq (t : TypeId) (ht : tyLook tyTab t = some .attr) (op : BinOp) (x y : Operand) (a b c d : ByteArray) (w : World) (ho : op = .eql ∨ op = .neq) :
    (do eqGuard op t x y (.agg #[.string a, .string b]) (.agg #[.string c, .string d]); binOp op t (.agg #[.string a, .string b]) (.agg #[.string c, .string d]) : Sem Value).run Try.prog w =
      .ok (.bool (if op = .eql then eqS a c && eqS b d else !(eqS a c && eqS b d))) w := by
  have e : t = 95 := (ty_ok ht).1
  subst e
  simp only [Sem.run_bind]
  rw [run_eqGuard_agg w op _ x y _ _ attr_guard]
  simp only [Result.andThen_ok]
  rcases ho with rfl | rfl
  · rw [run_eql_struct, run_equalIn_agg w 9999 _ _ _ attr_under attr_held, eqF attr_two]
    rfl
  · rw [run_neq_struct, run_equalIn_agg w 9999 _ _ _ attr_under attr_held, eqF attr_two]
    rfl
/-- A Builder's zero value. -/
def bldB (P : Program) (e : Nat) : Bool :=
  match P.info? e with
  | none => false
  | some i => match i.zero with
    | some (.agg cs) => match cs.toList with
      | [.pointer none, .slice none 0 0] => true
      | _ => false
    | _ => false
theorem bldB_ok : bldB Try.prog 149 = true := by kernel_rfl
theorem bldB_spec {P : Program} {e : Nat} (h : bldB P e = true) : ∃ i, P.info? e = some i ∧ i.zero = some (.agg #[.pointer none, .slice none 0 0]) := by
  unfold bldB at h
  split at h
  · cases h
  · rename_i i hi
    refine ⟨i, hi, ?_⟩
    split at h
    · rename_i cs hz
      rw [hz]
      split at h
      · rename_i hc
        have : cs = #[.pointer none, .slice none 0 0] := Array.toList_inj.1 hc
        rw [this]
      · cases h
    · cases h
theorem bld_ok (T : Nat → List AV → List Blk → Option Ans) (cold : Nat → List Nat) : ∀ e, (cxC T cold).bldT e = true → e = (cxC T cold).tid .bld ∧ ∃ i, (cxC T cold).P.info? e = some i ∧ i.zero = some (.agg #[.pointer none, .slice none 0 0]) := fun e h => by
  have h : Nat.beq e 149 = true := h
  rw [Nat.eq_of_beq_eq_true h]
  exact ⟨by kernel_rfl, bldB_spec bldB_ok⟩
theorem cxOK (T : Nat → List AV → List Blk → Option Ans) : CxOK (cxT T) :=
  ⟨fun e t h => ty_ok h, fun t ht op x y a b c d w ho => attr_eq t ht op x y a b c d w ho, bld_ok T fun _ => [], follows_ok, rfl⟩

theorem cx0OK : CxOK cx0 := cxOK _
theorem cxCOK (T : Nat → List AV → List Blk → Option Ans) (cold : Nat → List Nat) : CxOK (cxC T cold) :=
  ⟨fun e t h => ty_ok h, fun t ht op x y a b c d w ho => attr_eq t ht op x y a b c d w ho, bld_ok T cold, follows_ok, rfl⟩

/-! ### Tables of contracts -/
abbrev Con := List AV → List Blk → Option Ans
def tabLook : List (Nat × Con) → Nat → Con
  | [], _ => fun _ _ => none
  | (m, c) :: l, n => match Nat.beq m n with
    | true => c
    | false => tabLook l n
/-- A contract that holds. -/
def Holds (f : Nat) (c : Con) : Prop := ∀ args hp ans, c args hp = some ans → Meets cx0 f args hp ans
theorem meets_any {T : Nat → List AV → List Blk → Option Ans} {f : Nat} {args : List AV} {hp : List Blk} {ans : Ans} (h : Meets cx0 f args hp ans) : Meets (cxT T) f args hp ans := h
def entOK (P : Program) : List (Nat × Con) → Bool
  | [] => true
  | (f, _) :: l => (match P.funcs[f]? with
    | some fn => fn.body.isSome
    | none => false) && entOK P l
theorem tab_ok {l : List (Nat × Con)} (h : ∀ p ∈ l, Holds p.1 p.2) (he : ∀ p ∈ l, ∀ vals w, (callFunc p.1 vals).run Try.prog w = .ok (.enter p.1 vals) w) : TOK (cxT (tabLook l)) := by
  have key : ∀ (m : List (Nat × Con)) (f : Nat) (args : List AV) (hp : List Blk) (ans : Ans), tabLook m f args hp = some ans → ∃ p ∈ m, p.1 = f ∧ p.2 args hp = some ans := by
    intro m
    induction m with
    | nil => intro f args hp ans h; cases h
    | cons p m ih =>
      intro f args hp ans h
      obtain ⟨g, c⟩ := p
      unfold tabLook at h
      cases hb : Nat.beq g f with
      | true => rw [hb] at h; exact ⟨_, .head _, Nat.eq_of_beq_eq_true hb, h⟩
      | false =>
        rw [hb] at h
        obtain ⟨p, hp1, hp2⟩ := ih f args hp ans h; exact ⟨p, .tail _ hp1, hp2⟩
  refine ⟨fun f args hp ans hT => ?_, fun f args hp ans hT vals w => ?_⟩
  · obtain ⟨p, hm, rfl, hc⟩ := key l f args hp ans hT
    exact h p hm args hp ans hc
  · obtain ⟨p, hm, rfl, hc⟩ := key l f args hp ans hT
    exact he p hm vals w
def entB (P : Program) (f : Nat) : Bool :=
  match P.funcs[f]? with
  | none => false
  | some fn => match fn.name == "runtime.NumGoroutine" with
    | true => false
    | false => fn.body.isSome
theorem enter_of {f : Nat} (h : entB Try.prog f = true) (vals : Array Value) (w : World) : (callFunc f vals).run Try.prog w = .ok (.enter f vals) w := by
  unfold entB at h
  unfold callFunc
  simp only [Sem.run_bind, run_program, Result.andThen_ok]
  cases hf : Try.prog.funcs[f]? with
  | none => rw [hf] at h; cases h
  | some fn =>
    rw [hf] at h
    simp only at h
    cases hn : fn.name == "runtime.NumGoroutine" with
    | true => rw [hn] at h; cases h
    | false =>
      rw [hn] at h
      cases hb : fn.body with
      | none => simp [hb] at h
      | some c =>
        have hn' : ¬ fn.name = "runtime.NumGoroutine" := by simpa using hn
        simp [hb, hn']

/-- What is known of a value is known of it in another form. -/
def AVle (x y : AV) : Prop := ∀ (w : World) (O : Nat → Prop) (I : Im) (v : Value), ValR1 w O I v x → ValR1 w O I v y
theorem AVle.refl (x : AV) : AVle x x := fun _ _ _ _ h => h
theorem AVle.nil (t : Ty) : AVle .nil (.row t []) := fun w O I v h => by
  cases (show LeafR w O I v .nil from h); exact .leaf (.row0 t)
theorem AVle.lit (b : Bool) : AVle (.lit b) (.bool b) := fun w O I v h => by
  cases (show LeafR w O I v (.lit b) from h); exact .leaf (.bool b)
theorem Meets.weaken {cx : Cx} {f : Nat} {args args' : List AV} {hp : List Blk} {ans : Ans} (h : All2 AVle args args') (hm : Meets cx f args' hp ans) : Meets cx f args hp ans := by
  intro F I w vals hH hv
  refine hm F I w vals hH (.of (hv.length.trans h.length) fun i v y hi hy => ?_)
  obtain ⟨x, hx, hxy⟩ := h.get hy
  obtain ⟨v', hv', hr⟩ := hv.get hx
  rw [hi] at hv'; injection hv' with hv'; subst hv'
  exact hxy _ _ _ _ hr
/-- An empty row is nil, or it is not. -/
theorem Meets.row0 {cx : Cx} {f : Nat} {t : Ty} {args0 args1 : List AV} {hp : List Blk} {ans : Ans} (h1 : Meets cx f (args0 ++ .nil :: args1) hp ans) (h2 : Meets cx f (args0 ++ .zrow :: args1) hp ans) : Meets cx f (args0 ++ .row t [] :: args1) hp ans := by
  intro F I w vals hH hv
  have hsome : (args0 ++ AV.row t [] :: args1)[args0.length]? = some (.row t []) := by simp
  obtain ⟨v, hv1, hr⟩ := hv.get hsome
  have swap : ∀ y, ValR1 w (Own F I) I v y → All2 (ValR1 w (Own F I) I) vals (args0 ++ y :: args1) := by
    intro y hy
    refine .of (by have := hv.length; simpa using this) fun i u x hu hx => ?_
    by_cases e : i = args0.length
    · subst e
      rw [hv1] at hu; injection hu with hu; subst hu
      have : x = y := by simpa using hx.symm
      subst this; exact hy
    · have : (args0 ++ AV.row t [] :: args1)[i]? = some x := by
        rw [List.getElem?_append] at hx ⊢
        split
        · rename_i hlt; rw [if_pos hlt] at hx; exact hx
        · rename_i hlt
          rw [if_neg hlt] at hx
          obtain ⟨k, hk⟩ : ∃ k, i - args0.length = k + 1 := ⟨i - args0.length - 1, by omega⟩
          rw [hk] at hx ⊢
          simpa using hx
      obtain ⟨u', hu', hr'⟩ := hv.get this
      rw [hu] at hu'; injection hu' with hu'; subst hu'; exact hr'
  cases (show LeafR w (Own F I) I v (.row t []) from hr) with
  | row0 => exact h1 F I w vals hH (swap _ (.leaf .nil))
  | rowz ad c => exact h2 F I w vals hH (swap _ (.leaf (.zrow _ _)))
  | row b off c => exact h2 F I w vals hH (swap _ (.leaf (.zrow _ _)))
def asAts : AV → Option (List At)
  | .row .attr xs => some xs
  | .nil => some []
  | _ => none
def asIts : AV → Option (List Int)
  | .row .int xs => some xs
  | .nil => some []
  | _ => none
def asNds : AV → Option (List Nd)
  | .row .node xs => some xs
  | .nil => some []
  | _ => none
theorem asAts_le {x : AV} {l : List At} (h : asAts x = some l) : AVle x (.row .attr l) := by
  unfold asAts at h
  split at h
  · injection h with h; subst h; exact .refl _
  · injection h with h; subst h; exact .nil _
  · cases h
theorem asIts_le {x : AV} {l : List Int} (h : asIts x = some l) : AVle x (.row .int l) := by
  unfold asIts at h
  split at h
  · injection h with h; subst h; exact .refl _
  · injection h with h; subst h; exact .nil _
  · cases h
theorem asNds_le {x : AV} {l : List Nd} (h : asNds x = some l) : AVle x (.row .node l) := by
  unfold asNds at h
  split at h
  · injection h with h; subst h; exact .refl _
  · injection h with h; subst h; exact .nil _
  · cases h

/-! ### Loops of a function -/
noncomputable def bodyOf (fn : Func) (i : Nat) : Code := match (loopsOf 0 (fn.body.getD .skip))[i]? with
  | some p => p.2
  | none => .skip
noncomputable def blkOf (fn : Func) (i : Nat) : Nat := match (loopsOf 0 (fn.body.getD .skip))[i]? with
  | some p => p.1
  | none => 0
theorem loops_ok {cx : Cx} {fix : List Nat} {L : Loops} {fn : Func} {c : Code} (hb : fn.body = some c) (n : Nat) (hn : (loopsOf 0 (fn.body.getD .skip)).length = n) (h : ∀ i, i < n → ∀ s K, L (blkOf fn i) s K → Snd cx fix (.loop (bodyOf fn i)) s K) : LoopsOK cx fix L 0 c := by
  intro p hp s K hL
  have e : fn.body.getD .skip = c := by rw [hb]; rfl
  rw [e] at hn
  obtain ⟨i, hi, rfl⟩ := List.getElem_of_mem hp
  have := h i (by omega) s K
  unfold blkOf bodyOf at this
  rw [e, List.getElem?_eq_getElem hi] at this
  exact this hL
end Go.Proofs.Ytmkjjopflncedaa.AX
end
section
namespace Go.Proofs.Ytmkjjopflncedaa.AX
open Go Go.RowKit

/-- Kinds of parameters. -/
inductive Pm where
  | int
  | u8
  | str
  | bool
  | row (t : Ty)
  | agg (t : Ty)
  | fn (f : Nat)
abbrev Dp : Pm → Type
  | .int => Int
  | .u8 => Int
  | .str => ByteArray
  | .bool => Bool
  | .row t => List (den t)
  | .agg t => den t
  | .fn _ => Unit
def rowOf (t : Ty) : AV → Option (List (den t))
  | .nil => some []
  | .row _ xs => castRow t xs
  | _ => none
def intOf : AV → Option Int
  | .int .i64 n => some n
  | _ => none
def u8Of : AV → Option Int
  | .int .u8 n => some n
  | _ => none
def strOfA : AV → Option ByteArray
  | .str s => some s
  | _ => none
def boolOf : AV → Option Bool
  | .bool b => some b
  | .lit b => some b
  | _ => none
def aggOf (t : Ty) : AV → Option (den t)
  | .agg l => toEl t l
  | _ => none
def fnOf (f : Nat) : AV → Option Unit
  | .fn g [] => match Nat.beq g f with
    | true => some ()
    | false => none
  | _ => none
def Pm.get (p : Pm) (x : AV) : Option (Dp p) :=
  match p with
  | .int => intOf x
  | .u8 => u8Of x
  | .str => strOfA x
  | .bool => boolOf x
  | .row t => rowOf t x
  | .agg t => aggOf t x
  | .fn f => fnOf f x
def Pm.av : (p : Pm) → Dp p → AV
  | .int, n => .int .i64 n
  | .u8, n => .int .u8 n
  | .str, s => .str s
  | .bool, b => .bool b
  | .row t, xs => .row t xs
  | .agg t, x => .agg (leaves t x)
  | .fn f, _ => .fn f []
theorem castRow_av {t u : Ty} {xs : List (den u)} {ys : List (den t)} (h : castRow t xs = some ys) : AV.row u xs = AV.row t ys := by
  unfold castRow at h
  split at h
  · rename_i e _
    subst e
    injection h with h; subst h; rfl
  · cases h
theorem Pm.le {p : Pm} {x : AV} {d : Dp p} (h : p.get x = some d) : AVle x (p.av d) := by
  cases p with
  | row t =>
    change rowOf t x = some d at h
    unfold rowOf at h
    split at h
    · injection h with h; subst h; exact .nil _
    · show AVle _ (.row t d)
      rw [castRow_av h]; exact .refl _
    · cases h
  | agg t =>
    change aggOf t x = some d at h
    unfold aggOf at h
    split at h
    · intro w O I v hv
      obtain ⟨cs, rfl, hall⟩ := hv
      exact ⟨cs, rfl, toEl_R hall h⟩
    · cases h
  | bool =>
    change boolOf x = some d at h
    unfold boolOf at h
    split at h
    · injection h with h; subst h; exact .refl _
    · injection h with h; subst h; exact .lit _
    · cases h
  | int =>
    change intOf x = some d at h
    unfold intOf at h
    split at h
    · injection h with h; subst h; exact .refl _
    · cases h
  | u8 =>
    change u8Of x = some d at h
    unfold u8Of at h
    split at h
    · injection h with h; subst h; exact .refl _
    · cases h
  | fn f =>
    change fnOf f x = some d at h
    unfold fnOf at h
    split at h
    · split at h
      · rename_i hb
        rw [Nat.eq_of_beq_eq_true hb]; exact .refl _
      · cases h
    · cases h
  | str =>
    change strOfA x = some d at h
    unfold strOfA at h
    split at h
    · injection h with h; subst h; exact .refl _
    · cases h
def Fn : List Pm → Type → Type
  | [], R => R
  | p :: ps, R => Dp p → Fn ps R
def conArgs : (ps : List Pm) → Fn ps Ans → List AV → Option Ans
  | [], r, [] => some r
  | p :: ps, g, x :: l => (p.get x).bind fun d => conArgs ps (g d) l
  | _, _, _ => none
def conP (ps : List Pm) (g : Fn ps Ans) : Con := fun args hp => match hp with
  | [] => conArgs ps g args
  | _ => none
def AllP : (ps : List Pm) → Fn ps Ans → (List AV → Ans → Prop) → Prop
  | [], r, M => M [] r
  | p :: ps, g, M => ∀ d, AllP ps (g d) fun args ans => M (p.av d :: args) ans
theorem conArgs_of : ∀ {ps : List Pm} {g : Fn ps Ans} {M : List AV → Ans → Prop} {args : List AV} {ans : Ans}, AllP ps g M → conArgs ps g args = some ans → ∃ args', All2 AVle args args' ∧ M args' ans
  | [], r, M, [], ans, h, e => by injection e with e; subst e; exact ⟨[], .nil, h⟩
  | [], _, _, _ :: _, _, _, e => by cases e
  | _ :: _, _, _, [], _, _, e => by cases e
  | p :: ps, g, M, x :: l, ans, h, e => by
    simp only [conArgs, Option.bind_eq_some_iff] at e
    obtain ⟨d, hd, e⟩ := e
    obtain ⟨args', h1, h2⟩ := conArgs_of (h d) e
    exact ⟨_, .cons (Pm.le hd) h1, h2⟩
theorem conP_holds {f : Nat} {ps : List Pm} {g : Fn ps Ans} (h : AllP ps g fun args ans => Meets cx0 f args [] ans) : Holds f (conP ps g) := by
  intro args hp ans e
  unfold conP at e
  split at e
  · obtain ⟨args', h1, h2⟩ := conArgs_of h e
    exact h2.weaken h1
  · cases e

/-! ### Tables -/
inductive AllH : List (Nat × Con) → Prop where
  | nil : AllH []
  | cons {f : Nat} {c : Con} {l : List (Nat × Con)} (h : Holds f c) (e : entB Try.prog f = true) (t : AllH l) : AllH ((f, c) :: l)
theorem AllH.mem {l : List (Nat × Con)} (h : AllH l) : ∀ p ∈ l, Holds p.1 p.2 ∧ entB Try.prog p.1 = true := by
  induction h with
  | nil => intro p hp; cases hp
  | cons h e _ ih =>
    intro p hp
    cases hp with
    | head => exact ⟨h, e⟩
    | tail _ hp => exact ih p hp
theorem AllH.tok {l : List (Nat × Con)} (h : AllH l) : TOK (cxT (tabLook l)) := tab_ok (fun p hp => (h.mem p hp).1) (fun p hp vals w => enter_of (h.mem p hp).2 vals w)

/-! ### Loops -/
structure LS where
  keep : List (Tmp × Want)
  left : List (Tmp × Want)
  sum : List AV → List Blk → (Ex → List AV → List Blk → Prop) → Prop
def lookLS : List (Nat × LS) → Nat → Option LS
  | [], _ => none
  | (b, x) :: l, n => match Nat.beq b n with
    | true => some x
    | false => lookLS l n
def Lof (n : Nat) (l : List (Nat × LS)) : Loops := fun b s K => match lookLS l b with
  | some x => loopA n x.keep x.left x.sum s K
  | none => False
def deepLoops : Nat → Code → List (Nat × Code)
  | b, .seq x y => deepLoops b x ++ deepLoops b y
  | b, .cond _ x y => deepLoops b x ++ deepLoops b y
  | _, .block id c => deepLoops id c
  | b, .loop c => (b, c) :: deepLoops b c
  | b, .scope c => deepLoops b c
  | _, _ => []
/-- A loop's sum says what its rounds do. -/
def SumOK (cx : Cx) (L : Loops) (n : Nat) (b : Nat) (c : Code) (x : LS) : Prop := ∀ vs bs K, x.sum vs bs K → ∃ m, roundsA cx L n b c x.keep x.left K m vs bs
theorem loopsOK_deep {cx : Cx} {fix : List Nat} {n : Nat} {l : List (Nat × LS)} (ok : CxOK cx) (tok : TOK cx) : ∀ (c : Code) (b : Nat), clearC fix c = true → (∀ p ∈ deepLoops b c, ∀ x, lookLS l p.1 = some x → SumOK cx (Lof n l) n p.1 p.2 x) → LoopsOK cx fix (Lof n l) b c := by
  intro c
  induction c with
  | seq x y ihx ihy =>
    intro b hc h p hp
    simp only [clearC] at hc
    split at hc
    · rename_i hcx
      rcases List.mem_append.1 hp with hp | hp
      · exact ihx b hcx (fun p hp => h p (List.mem_append.2 (.inl hp))) p hp
      · exact ihy b hc (fun p hp => h p (List.mem_append.2 (.inr hp))) p hp
    · cases hc
  | cond c x y ihx ihy =>
    intro b hc h p hp
    simp only [clearC] at hc
    split at hc
    · rename_i hcx
      rcases List.mem_append.1 hp with hp | hp
      · exact ihx b hcx (fun p hp => h p (List.mem_append.2 (.inl hp))) p hp
      · exact ihy b hc (fun p hp => h p (List.mem_append.2 (.inr hp))) p hp
    · cases hc
  | block id c ih =>
    intro b hc h p hp
    exact ih id hc h p hp
  | scope c ih =>
    intro b hc h p hp
    exact ih b hc h p hp
  | loop c ih =>
    intro b hc h p hp s K hL
    simp only [loopsOf, List.mem_singleton] at hp
    subst hp
    unfold Lof at hL
    cases hx : lookLS l b with
    | none => rw [hx] at hL; exact hL.elim
    | some x =>
      rw [hx] at hL
      exact loop_snd ok tok (ih b hc fun p hp => h p (.tail _ hp)) hc (h _ (.head _) x hx) hL
  | _ => intro b _ _ p hp; cases hp
noncomputable def fcode (fn : Func) : Code := fn.body.getD .skip
noncomputable def loopAt (fn : Func) (i : Nat) : Nat × Code := (deepLoops 0 (fcode fn)).getD i (0, .skip)
noncomputable def LSof (fn : Func) (lss : List LS) : List (Nat × LS) := ((deepLoops 0 (fcode fn)).map (·.1)).zip lss
noncomputable def LL (fn : Func) (lss : List LS) : Loops := Lof fn.ntmps (LSof fn lss)
def nodupN : List Nat → Bool
  | [] => true
  | a :: l => match hasN l a with
    | true => false
    | false => nodupN l
noncomputable def okFnS (fn : Func) (args : List AV) (fs : List Fst) (hp : List Blk) (ans : Ans) (k : Nat) : Bool :=
  fn.body.isSome && clearC (slotsOf fs) (fcode fn) && formS fn args fs hp ans && Nat.beq (deepLoops 0 (fcode fn)).length k && nodupN ((deepLoops 0 (fcode fn)).map (·.1))
noncomputable def okFn (fn : Func) (args : List AV) (hp : List Blk) (ans : Ans) (k : Nat) : Bool := noSame ans.same && okFnS fn args (fsOf args) hp ans k
theorem lookLS_zip : ∀ {bs : List Nat} {lss : List LS} {i b : Nat} {x : LS}, nodupN bs = true → bs[i]? = some b → lookLS (bs.zip lss) b = some x → lss[i]? = some x
  | [], _, _, _, _, _, h, _ => by simp at h
  | a :: bs, [], i, b, x, _, _, h => by cases h
  | a :: bs, y :: lss, i, b, x, hn, h, hl => by
    simp only [nodupN] at hn
    split at hn
    · cases hn
    · rename_i hna
      simp only [List.zip_cons_cons, lookLS] at hl
      cases i with
      | zero =>
        simp at h
        subst h
        rw [Nat.beq_refl] at hl
        injection hl with hl
        simp [hl]
      | succ i =>
        simp at h
        split at hl
        · rename_i hb
          have := Nat.eq_of_beq_eq_true hb
          subst this
          have hm := hasN_iff.2 (List.mem_of_getElem? h)
          rw [hm] at hna; cases hna
        · simpa using lookLS_zip hn h hl
/-- What a function's end must be. -/
def FinQ (ans : Ans) (vs : List AV) (x y : List Blk) : Prop := (∀ p, ans.given = some p → p) ∧ vs = compsOf ans.res ∧ x = ans.hp ∧ y = ans.extra
theorem fun_meetsLS {T : Nat → List AV → List Blk → Option Ans} (tok : TOK (cxT T)) {f : Nat} {fn : Func} {args : List AV} {hp : List Blk} (fs : List Fst) (ws : List Want) {ans : Ans} (lss : List LS) (hf : Try.prog.funcs[f]? = some fn) (hchk : okFnS fn args fs hp ans lss.length = true)
    (hs : ∀ i x, lss[i]? = some x → SumOK (cxT T) (LL fn lss) fn.ntmps (loopAt fn i).1 (loopAt fn i).2 x)
    (h : (∀ p, ans.pre = some p → p) → funS (cxT T) (LL fn lss) fn args hp fs ans.same ws (FinQ ans)) : Meets cx0 f args hp ans := by
  simp only [okFnS, Bool.and_eq_true] at hchk
  obtain ⟨⟨⟨⟨h1, h2⟩, h3⟩, h4⟩, h5⟩ := hchk
  obtain ⟨c, hc⟩ := Option.isSome_iff_exists.1 h1
  have e : fcode fn = c := by unfold fcode; rw [hc]; rfl
  refine meets_any (T := fun _ _ _ => none) (show Meets (cxT T) _ _ _ _ from ?_)
  refine fun_meetsS (ws := ws) (cxOK T) tok hf hc ?_ (by rw [← e]; exact h2) h3 h
  rw [← e]
  refine loopsOK_deep (cxOK T) tok _ _ h2 fun p hp x hx => ?_
  obtain ⟨i, hi, rfl⟩ := List.getElem_of_mem hp
  have hxi := lookLS_zip (i := i) h5 (by simp [hi]) hx
  have := hs i x hxi
  have el : loopAt fn i = (deepLoops 0 (fcode fn))[i] := by
    unfold loopAt; rw [List.getD_eq_getElem?_getD, List.getElem?_eq_getElem hi]; rfl
  rw [el] at this
  exact this
theorem fun_meetsL {T : Nat → List AV → List Blk → Option Ans} (tok : TOK (cxT T)) {f : Nat} {fn : Func} {args : List AV} {hp : List Blk} (ws : List Want) {ans : Ans} (lss : List LS) (hf : Try.prog.funcs[f]? = some fn) (hchk : okFn fn args hp ans lss.length = true)
    (hs : ∀ i x, lss[i]? = some x → SumOK (cxT T) (LL fn lss) fn.ntmps (loopAt fn i).1 (loopAt fn i).2 x)
    (h : (∀ p, ans.pre = some p → p) → funA (cxT T) (LL fn lss) fn args hp ws (FinQ ans)) : Meets cx0 f args hp ans := by
  simp only [okFn, Bool.and_eq_true] at hchk
  have e : ans.same = [] := by
    have := hchk.1
    unfold noSame at this
    split at this
    · assumption
    · cases this
  refine fun_meetsLS tok (fsOf args) ws lss hf hchk.2 hs fun hp => ?_
  rw [e]
  exact h hp
theorem fun_meets0S {T : Nat → List AV → List Blk → Option Ans} (tok : TOK (cxT T)) {f : Nat} {fn : Func} {args : List AV} {hp : List Blk} (fs : List Fst) (ws : List Want) {ans : Ans} (hf : Try.prog.funcs[f]? = some fn) (hchk : okFnS fn args fs hp ans 0 = true)
    (h : (∀ p, ans.pre = some p → p) → funS (cxT T) (LL fn []) fn args hp fs ans.same ws (FinQ ans)) : Meets cx0 f args hp ans :=
  fun_meetsLS tok fs ws [] hf hchk (fun i x hx => by simp at hx) h
theorem fun_meets1S {T : Nat → List AV → List Blk → Option Ans} (tok : TOK (cxT T)) {f : Nat} {fn : Func} {args : List AV} {hp : List Blk} (fs : List Fst) (ws : List Want) {ans : Ans} (x : LS) (hf : Try.prog.funcs[f]? = some fn) (hchk : okFnS fn args fs hp ans 1 = true)
    (hs : SumOK (cxT T) (LL fn [x]) fn.ntmps (loopAt fn 0).1 (loopAt fn 0).2 x)
    (h : (∀ p, ans.pre = some p → p) → funS (cxT T) (LL fn [x]) fn args hp fs ans.same ws (FinQ ans)) : Meets cx0 f args hp ans :=
  fun_meetsLS tok fs ws [x] hf hchk (fun i y hy => by
    cases i with
    | zero => simp at hy; subst hy; exact hs
    | succ i => simp at hy) h
theorem fun_meets0 {T : Nat → List AV → List Blk → Option Ans} (tok : TOK (cxT T)) {f : Nat} {fn : Func} {args : List AV} {hp : List Blk} (ws : List Want) {ans : Ans} (hf : Try.prog.funcs[f]? = some fn) (hchk : okFn fn args hp ans 0 = true)
    (h : (∀ p, ans.pre = some p → p) → funA (cxT T) (LL fn []) fn args hp ws (FinQ ans)) : Meets cx0 f args hp ans :=
  fun_meetsL tok ws [] hf hchk (fun i x hx => by simp at hx) h
/-- With slices that are read alone behind some regions. -/
theorem fun_meets0C {T : Nat → List AV → List Blk → Option Ans} (tok : TOK (cxT T)) (cold : Nat → List Nat) {f : Nat} {fn : Func} {args : List AV} {hp : List Blk} (ws : List Want) {ans : Ans} (hf : Try.prog.funcs[f]? = some fn) (hchk : okFn fn args hp ans 0 = true)
    (h : (∀ p, ans.pre = some p → p) → funA (cxC T cold) (LL fn []) fn args hp ws (FinQ ans)) : Meets cx0 f args hp ans := by
  simp only [okFn, okFnS, Bool.and_eq_true] at hchk
  obtain ⟨h0, ⟨⟨⟨h1, h2⟩, h3⟩, h4⟩, h5⟩ := hchk
  have e : ans.same = [] := by
    unfold noSame at h0
    split at h0
    · assumption
    · cases h0
  obtain ⟨c, hc⟩ := Option.isSome_iff_exists.1 h1
  have ec : fcode fn = c := by unfold fcode; rw [hc]; rfl
  have tok' : TOK (cxC T cold) := ⟨tok.1, tok.2⟩
  refine meets_any (T := T) (show Meets (cxC T cold) _ _ _ _ from ?_)
  refine fun_meetsS (ws := ws) (cxCOK T cold) tok' hf hc ?_ (by rw [← ec]; exact h2) h3 fun hp => by rw [e]; exact h hp
  rw [← ec]
  exact loopsOK_deep (cxCOK T cold) tok' _ _ h2 fun p hp x hx => by
    obtain ⟨i, hi, rfl⟩ := List.getElem_of_mem hp
    have hxi := lookLS_zip (i := i) h5 (by simp [hi]) hx
    simp at hxi
theorem fun_meets1 {T : Nat → List AV → List Blk → Option Ans} (tok : TOK (cxT T)) {f : Nat} {fn : Func} {args : List AV} {hp : List Blk} (ws : List Want) {ans : Ans} (x : LS) (hf : Try.prog.funcs[f]? = some fn) (hchk : okFn fn args hp ans 1 = true)
    (hs : SumOK (cxT T) (LL fn [x]) fn.ntmps (loopAt fn 0).1 (loopAt fn 0).2 x)
    (h : (∀ p, ans.pre = some p → p) → funA (cxT T) (LL fn [x]) fn args hp ws (FinQ ans)) : Meets cx0 f args hp ans :=
  fun_meetsL tok ws [x] hf hchk (fun i y hy => by
    cases i with
    | zero => simp at hy; subst hy; exact hs
    | succ i => simp at hy) h
theorem fun_meets2 {T : Nat → List AV → List Blk → Option Ans} (tok : TOK (cxT T)) {f : Nat} {fn : Func} {args : List AV} {hp : List Blk} (ws : List Want) {ans : Ans} (x y : LS) (hf : Try.prog.funcs[f]? = some fn) (hchk : okFn fn args hp ans 2 = true)
    (hs : SumOK (cxT T) (LL fn [x, y]) fn.ntmps (loopAt fn 0).1 (loopAt fn 0).2 x) (hs1 : SumOK (cxT T) (LL fn [x, y]) fn.ntmps (loopAt fn 1).1 (loopAt fn 1).2 y)
    (h : (∀ p, ans.pre = some p → p) → funA (cxT T) (LL fn [x, y]) fn args hp ws (FinQ ans)) : Meets cx0 f args hp ans :=
  fun_meetsL tok ws [x, y] hf hchk (fun i z hz => by
    match i, hz with
    | 0, hz => simp at hz; subst hz; exact hs
    | 1, hz => simp at hz; subst hz; exact hs1
    | i + 2, hz => simp at hz) h

/-- What follows a round. -/
def rk (K : Ex → List AV → List Blk → Prop) (R : List AV → List Blk → Prop) : Ex → List AV → List Blk → Prop := fun e vs bs => match e with
  | .norm => R vs bs
  | e => K e vs bs
/-- A loop that counts. -/
theorem rounds_for {cx : Cx} {L : Loops} {n b : Nat} {c : Code} {keep left : List (Tmp × Want)} {K : Ex → List AV → List Blk → Prop} (P : Nat → Prop) (st : Nat → List AV) (bl : Nat → List Blk) (N : Nat)
    (hstep : ∀ i, i < N → P i → ∀ R : List AV → List Blk → Prop, (P (i + 1) → R (st (i + 1)) (bl (i + 1))) → bodyA cx L n b c keep left (rk K R) (st i) (bl i))
    (hend : P N → ∀ R, bodyA cx L n b c keep left (rk K R) (st N) (bl N)) : ∀ (k i : Nat), i + k = N → P i → roundsA cx L n b c keep left K (k + 1) (st i) (bl i) := by
  intro k
  induction k with
  | zero =>
    intro i hi hp
    have : i = N := by omega
    subst this
    exact hend hp (roundsA cx L n b c keep left K 0)
  | succ k ih =>
    intro i hi hp
    exact hstep i (by omega) hp (roundsA cx L n b c keep left K (k + 1)) fun h => ih (i + 1) (by omega) h
theorem sum_for {cx : Cx} {L : Loops} {n b : Nat} {c : Code} {keep left : List (Tmp × Want)} {K : Ex → List AV → List Blk → Prop} (P : Nat → Prop) (st : Nat → List AV) (bl : Nat → List Blk) (N : Nat)
    (hstep : ∀ i, i < N → P i → ∀ R : List AV → List Blk → Prop, (P (i + 1) → R (st (i + 1)) (bl (i + 1))) → bodyA cx L n b c keep left (rk K R) (st i) (bl i))
    (hend : P N → ∀ R, bodyA cx L n b c keep left (rk K R) (st N) (bl N)) (h0 : P 0) : ∃ m, roundsA cx L n b c keep left K m (st 0) (bl 0) := ⟨_, rounds_for P st bl N hstep hend N 0 (Nat.zero_add _) h0⟩
theorem qfin {ans : Ans} {vs : List AV} {x y : List Blk} (h0 : ans.given = none) (h1 : vs = compsOf ans.res) (h2 : x = ans.hp) (h3 : y = ans.extra) : FinQ ans vs x y :=
  ⟨fun p hp => (by rw [h0] at hp; cases hp), h1, h2, h3⟩
theorem wrap_id' {i : Int} (h0 : -9223372036854775808 ≤ i) (h1 : i < 9223372036854775808) : IntKind.i64.wrap i = i := by
  rw [IntKind.wrap_i64]; omega
theorem wrap_succ {i : Nat} {xs : Nat} (h : i < xs) (hm : xs ≤ maxSl) : IntKind.i64.wrap ((i : Int) + 1) = ((i + 1 : Nat) : Int) := by
  unfold maxSl at hm
  rw [wrap_id'] <;> omega
theorem rd_get {t : Ty} {xs : List (den t)} {i : Nat} (h : i < xs.length) : rd t xs (i : Int) = xs[i] := by
  have := rd_eq (t := t) (xs := xs) (i := (i : Int)) (by rw [Int.toNat_natCast]; exact h)
  exact this.trans (by rfl)
end Go.Proofs.Ytmkjjopflncedaa.AX
end
section
namespace Go.Proofs.Ytmkjjopflncedaa.AX
open Go Go.Shelf Go.RowKit

def ndz : Value := .agg #[.int .i64 0, .int .i64 0, .string ⟨#[]⟩, .slice none 0 0, .string ⟨#[]⟩, .slice none 0 0]
theorem ndz_run : ∀ w, (zeroValue 53).run Try.prog w = .ok ndz w := fun w => by kernel_rfl
theorem ndz_one : ∀ u ∈ ndz.cells, u.oneCell' = true := by
  intro u hu
  simp only [ndz, Value.cells, List.mem_toArray] at hu
  repeat (first | (rcases List.mem_cons.1 hu with rfl | hu; · rfl) | cases hu)
theorem ndinfo : ∃ i, Try.prog.info? 53 = some i ∧ i.size = 6 := by
  obtain ⟨_, i, _, h1, h2, _⟩ := ty_ok (e := 53) (t := .node) (by kernel_rfl)
  exact ⟨i, h1, h2⟩
set_option maxHeartbeats 8000000 in
set_option maxRecDepth 1000000 in
theorem nddel (g n cap i j : Nat) (cur : Array Value) (w : World) (hg : w.heap[g]? = some (.cells cur 53 (0, 0))) (hn : n ≤ cap) (hm : cap ≤ maxLen) (hs : cur.size = cap * 6) (h1 : ∀ u ∈ cur.toList.take (n * 6), u.oneCell' = true) (hij : i < j) (hj : j ≤ n) :
    Calls Try.prog 90 #[.slice (some ⟨g, 0, none⟩) n cap, .int .i64 i, .int .i64 j] w fun e w' => e = .returned (.slice (some ⟨g, 0, none⟩) (n - (j - i)) cap) ∧
      ∃ cur', Turn w w' g 53 cur' ∧ cur'.size = cur.size ∧ cur'.toList.take ((n - (j - i)) * 6) = cur.toList.take (i * 6) ++ (cur.toList.take (n * 6)).drop (j * 6) := by
  obtain ⟨inf, hinf, hsz⟩ := ndinfo
  have hcap : cap ≤ 9223372036854775807 := by unfold maxLen at hm; omega
  obtain ⟨news, hnews⟩ : ∃ news, news = (cur.toList.take (n * 6)).drop (j * 6) := ⟨_, rfl⟩
  have hlen : news.length = (n - j) * 6 := by rw [hnews]; simp only [List.length_drop, List.length_take, Array.length_toList]; omega
  obtain ⟨A, hA, hsrc⟩ : ∃ A : Addr, (if cap = j then some (⟨g, 0, none⟩ : Addr) else some ⟨g, j * 6, none⟩) = some A ∧ Hid (∀ t u, news[t]? = some u → w.drew.cell? (A.add t) = some u) := by
    by_cases h : cap = j
    · refine ⟨⟨g, 0, none⟩, by simp [h], fun t u hu => ?_⟩
      have h0 : news.length = 0 := by rw [hlen]; omega
      rw [List.length_eq_zero_iff.1 h0] at hu
      simp at hu
    · refine ⟨⟨g, j * 6, none⟩, by simp [h], fun t u hu => ?_⟩
      have ht := (List.getElem?_eq_some_iff.1 hu).1
      rw [hlen] at ht
      rw [hnews, List.getElem?_drop, List.getElem?_take, if_pos (by omega), Array.getElem?_toList, Array.getElem?_eq_getElem (by omega)] at hu
      injection hu with hu
      rw [Addr.add_lit, ← hu]
      exact cell_of (w := w) hg _
  have s1 : Hid (news.length = (n - j) * 6) := hlen
  have s2 : Hid (∀ u ∈ news, u.oneCell' = true) := by
    intro u hu
    rw [hnews] at hu
    exact h1 u (List.mem_of_mem_drop hu)
  have s3 : Hid (∀ t, t < news.length → (w.drew.cell? ⟨g, 0 + i * 6 + t, none⟩).isSome = true ∧ w.drew.frozen? ⟨g, 0 + i * 6 + t, none⟩ = false) := by
    intro t ht
    rw [hlen] at ht
    refine ⟨?_, frozen_of (w := w) hg _⟩
    have : w.drew.cell? ⟨g, 0 + i * 6 + t, none⟩ = some cur[0 + i * 6 + t] := cell_of (w := w) hg (by omega)
    rw [this]; rfl
  obtain ⟨W1, hW1⟩ : ∃ W1, W1 = w.drew.setCells g (0 + i * 6) news := ⟨_, rfl⟩
  have hG1 : W1.heap[g]? = some (.cells (splice cur (0 + i * 6) news) 53 (0, 0)) := by
    rw [hW1]; exact heap_setCells g news (0 + i * 6) w.drew cur hg (by omega)
  have hz1 := splice_size (cur := cur) (o := 0 + i * 6) (vs := news) (by omega)
  obtain ⟨zs, hzs⟩ : ∃ zs, zs = (Builtin.zeroCells ndz.cells (n - (i + (n - j)))).toList := ⟨_, rfl⟩
  have hzl : Hid (zs.length = (n - (i + (n - j))) * 6) := by
    show zs.length = _
    rw [hzs]; simp [Builtin.zeroCells, ndz, Value.cells]
  have hcl : ∀ ty, (Builtin.clear_ #[22] ty #[.slice (some ⟨g, (i + (n - j)) * 6, none⟩) (n - (i + (n - j))) (cap - (i + (n - j)))]).run Try.prog W1 = .ok (.tuple #[]) (W1.setCells g ((i + (n - j)) * 6) zs) :=
    fun ty => by
      rw [hzs]
      exact run_clear_z W1 _ _ ty _ Try.underlying22 ndz_run ndz_one g _ _ _ (by omega) (by show 0 < 6; decide)
        (fun t ht => by rw [show ndz.cells.size = 6 from rfl] at ht; rw [cell_of hG1 (by rw [hz1]; omega)]; rfl) (fun t ht => frozen_of hG1 _)
  have hW : Hid (W1 = w.drew.setCells g (0 + i * 6) news) := hW1
  have hG : Hid (W1.heap[g]? = some (.cells (splice cur (0 + i * 6) news) 53 (0, 0))) := hG1
  have hic : i ≤ cap := by omega
  have hjc : j ≤ cap := by omega
  have HN : Hid (news = (cur.toList.take (n * 6)).drop (j * 6)) := hnews
  have HG : Hid (w.heap[g]? = some (.cells cur 53 (0, 0))) := hg
  have mixed : Try.prog.follows Departure.mixedOrders = true := by kernel_rfl
  clear hW1 hG1 hg hnews hlen h1 hzs
  go_enter Try.func90, Try.ntmps90
  go_wp2_with fail
  go_region_law_o (refine step_append_room rfl (.tmp 22) (.tmp 25) 22 rfl 53 inf 6 Try.underlying22 hinf hsz g 0 i cap (by simp [Act.eval, Act.put]) A (n - j) (cap - j) news (by simp [Act.eval, Act.put]) s1.out hsrc.out s2.out (by omega) s3.out ?_; rw [← hW.out])
  go_wp2
  go_ret
  have hb : (i + (n - j)) * 6 + zs.length ≤ (splice cur (0 + i * 6) news).size := by rw [hzl.out, hz1]; omega
  obtain ⟨r1, r2, r3, r4⟩ := setCells_rest g zs ((i + (n - j)) * 6) W1
  obtain ⟨q1, q2, q3, q4⟩ := setCells_rest g news (0 + i * 6) w.drew
  rw [← hW.out] at q1 q2 q3 q4
  refine ⟨by rw [show n - (j - i) = i + (n - j) by omega]; rfl, _, ⟨heap_setCells g _ _ W1 _ hG.out hb, r1.trans q1, r2.trans q2, r3.trans q3, by rw [r4, q4]; exact Nat.le_refl _, fun k _ hk => ?_⟩, (splice_size hb).trans hz1, ?_⟩
  · rw [heap_setCells_ne g _ _ _ k hk, hW.out, heap_setCells_ne g _ _ _ k hk]; rfl
  · rw [show (n - (j - i)) * 6 = (i + (n - j)) * 6 by congr 1; omega, splice_take (by rw [hz1]; omega), ← HN.out]
    have e : (i + (n - j)) * 6 = (0 + i * 6) + news.length := by rw [s1.out]; omega
    rw [e, splice_take_end (by omega), Nat.zero_add]
end Go.Proofs.Ytmkjjopflncedaa.AX
end
section
namespace Go.Proofs.Ytmkjjopflncedaa.AX
open Go Go.Shelf Go.RowKit

def onz : Value := .agg #[.int .i64 0, .slice none 0 0, .int .i64 0, .int .i64 0, .string ⟨#[]⟩, .slice none 0 0, .string ⟨#[]⟩, .slice none 0 0, .int .i64 0, .int .i64 0, .string ⟨#[]⟩, .slice none 0 0, .string ⟨#[]⟩, .slice none 0 0]
theorem onz_run : ∀ w, (zeroValue 72).run Try.prog w = .ok onz w := fun w => by kernel_rfl
theorem onz_one : ∀ u ∈ onz.cells, u.oneCell' = true := by
  intro u hu
  simp only [onz, Value.cells, List.mem_toArray] at hu
  repeat (first | (rcases List.mem_cons.1 hu with rfl | hu; · rfl) | cases hu)
theorem oninfo : ∃ i, Try.prog.info? 72 = some i ∧ i.size = 14 := by
  obtain ⟨_, i, _, h1, h2, _⟩ := ty_ok (e := 72) (t := .one) (by kernel_rfl)
  exact ⟨i, h1, h2⟩
set_option maxHeartbeats 8000000 in
set_option maxRecDepth 1000000 in
theorem ondel (g n cap i j : Nat) (cur : Array Value) (w : World) (hg : w.heap[g]? = some (.cells cur 72 (0, 0))) (hn : n ≤ cap) (hm : cap ≤ maxLen) (hs : cur.size = cap * 14) (h1 : ∀ u ∈ cur.toList.take (n * 14), u.oneCell' = true) (hij : i < j) (hj : j ≤ n) :
    Calls Try.prog 51 #[.slice (some ⟨g, 0, none⟩) n cap, .int .i64 i, .int .i64 j] w fun e w' => e = .returned (.slice (some ⟨g, 0, none⟩) (n - (j - i)) cap) ∧
      ∃ cur', Turn w w' g 72 cur' ∧ cur'.size = cur.size ∧ cur'.toList.take ((n - (j - i)) * 14) = cur.toList.take (i * 14) ++ (cur.toList.take (n * 14)).drop (j * 14) := by
  obtain ⟨inf, hinf, hsz⟩ := oninfo
  have hcap : cap ≤ 9223372036854775807 := by unfold maxLen at hm; omega
  obtain ⟨news, hnews⟩ : ∃ news, news = (cur.toList.take (n * 14)).drop (j * 14) := ⟨_, rfl⟩
  have hlen : news.length = (n - j) * 14 := by rw [hnews]; simp only [List.length_drop, List.length_take, Array.length_toList]; omega
  obtain ⟨A, hA, hsrc⟩ : ∃ A : Addr, (if cap = j then some (⟨g, 0, none⟩ : Addr) else some ⟨g, j * 14, none⟩) = some A ∧ Hid (∀ t u, news[t]? = some u → w.drew.cell? (A.add t) = some u) := by
    by_cases h : cap = j
    · refine ⟨⟨g, 0, none⟩, by simp [h], fun t u hu => ?_⟩
      have h0 : news.length = 0 := by rw [hlen]; omega
      rw [List.length_eq_zero_iff.1 h0] at hu
      simp at hu
    · refine ⟨⟨g, j * 14, none⟩, by simp [h], fun t u hu => ?_⟩
      have ht := (List.getElem?_eq_some_iff.1 hu).1
      rw [hlen] at ht
      rw [hnews, List.getElem?_drop, List.getElem?_take, if_pos (by omega), Array.getElem?_toList, Array.getElem?_eq_getElem (by omega)] at hu
      injection hu with hu
      rw [Addr.add_lit, ← hu]
      exact cell_of (w := w) hg _
  have s1 : Hid (news.length = (n - j) * 14) := hlen
  have s2 : Hid (∀ u ∈ news, u.oneCell' = true) := by
    intro u hu
    rw [hnews] at hu
    exact h1 u (List.mem_of_mem_drop hu)
  have s3 : Hid (∀ t, t < news.length → (w.drew.cell? ⟨g, 0 + i * 14 + t, none⟩).isSome = true ∧ w.drew.frozen? ⟨g, 0 + i * 14 + t, none⟩ = false) := by
    intro t ht
    rw [hlen] at ht
    refine ⟨?_, frozen_of (w := w) hg _⟩
    have : w.drew.cell? ⟨g, 0 + i * 14 + t, none⟩ = some cur[0 + i * 14 + t] := cell_of (w := w) hg (by omega)
    rw [this]; rfl
  obtain ⟨W1, hW1⟩ : ∃ W1, W1 = w.drew.setCells g (0 + i * 14) news := ⟨_, rfl⟩
  have hG1 : W1.heap[g]? = some (.cells (splice cur (0 + i * 14) news) 72 (0, 0)) := by
    rw [hW1]; exact heap_setCells g news (0 + i * 14) w.drew cur hg (by omega)
  have hz1 := splice_size (cur := cur) (o := 0 + i * 14) (vs := news) (by omega)
  obtain ⟨zs, hzs⟩ : ∃ zs, zs = (Builtin.zeroCells onz.cells (n - (i + (n - j)))).toList := ⟨_, rfl⟩
  have hzl : Hid (zs.length = (n - (i + (n - j))) * 14) := by
    show zs.length = _
    rw [hzs]; simp [Builtin.zeroCells, onz, Value.cells]
  have hcl : ∀ ty, (Builtin.clear_ #[68] ty #[.slice (some ⟨g, (i + (n - j)) * 14, none⟩) (n - (i + (n - j))) (cap - (i + (n - j)))]).run Try.prog W1 = .ok (.tuple #[]) (W1.setCells g ((i + (n - j)) * 14) zs) :=
    fun ty => by
      rw [hzs]
      exact run_clear_z W1 _ _ ty _ Try.underlying68 onz_run onz_one g _ _ _ (by omega) (by show 0 < 14; decide)
        (fun t ht => by rw [show onz.cells.size = 14 from rfl] at ht; rw [cell_of hG1 (by rw [hz1]; omega)]; rfl) (fun t ht => frozen_of hG1 _)
  have hW : Hid (W1 = w.drew.setCells g (0 + i * 14) news) := hW1
  have hG : Hid (W1.heap[g]? = some (.cells (splice cur (0 + i * 14) news) 72 (0, 0))) := hG1
  have hic : i ≤ cap := by omega
  have hjc : j ≤ cap := by omega
  have HN : Hid (news = (cur.toList.take (n * 14)).drop (j * 14)) := hnews
  have HG : Hid (w.heap[g]? = some (.cells cur 72 (0, 0))) := hg
  have mixed : Try.prog.follows Departure.mixedOrders = true := by kernel_rfl
  clear hW1 hG1 hg hnews hlen h1 hzs
  go_enter Try.func51, Try.ntmps51
  go_wp2_with fail
  go_region_law_o (refine step_append_room rfl (.tmp 22) (.tmp 25) 68 rfl 72 inf 14 Try.underlying68 hinf hsz g 0 i cap (by simp [Act.eval, Act.put]) A (n - j) (cap - j) news (by simp [Act.eval, Act.put]) s1.out hsrc.out s2.out (by omega) s3.out ?_; rw [← hW.out])
  go_wp2
  go_ret
  have hb : (i + (n - j)) * 14 + zs.length ≤ (splice cur (0 + i * 14) news).size := by rw [hzl.out, hz1]; omega
  obtain ⟨r1, r2, r3, r4⟩ := setCells_rest g zs ((i + (n - j)) * 14) W1
  obtain ⟨q1, q2, q3, q4⟩ := setCells_rest g news (0 + i * 14) w.drew
  rw [← hW.out] at q1 q2 q3 q4
  refine ⟨by rw [show n - (j - i) = i + (n - j) by omega]; rfl, _, ⟨heap_setCells g _ _ W1 _ hG.out hb, r1.trans q1, r2.trans q2, r3.trans q3, by rw [r4, q4]; exact Nat.le_refl _, fun k _ hk => ?_⟩, (splice_size hb).trans hz1, ?_⟩
  · rw [heap_setCells_ne g _ _ _ k hk, hW.out, heap_setCells_ne g _ _ _ k hk]; rfl
  · rw [show (n - (j - i)) * 14 = (i + (n - j)) * 14 by congr 1; omega, splice_take (by rw [hz1]; omega), ← HN.out]
    have e : (i + (n - j)) * 14 = (0 + i * 14) + news.length := by rw [s1.out]; omega
    rw [e, splice_take_end (by omega), Nat.zero_add]
end Go.Proofs.Ytmkjjopflncedaa.AX
end
section
namespace Go.Proofs.Ytmkjjopflncedaa.AX
open Go Go.RowKit
section
variable {tid : Ty → TypeId} {w w' : World} {F : Nat → Prop} {I I' : Im}
def ownE (I : Im) (b : Nat) : Prop := ∃ i l, I i = some l ∧ l.has b
theorem HRel.toRel {hp : List (Option Blk)} (hH : HRel tid F I hp w) : Rel tid w (ownE I) F I ⟨[], hp⟩ { tmps := #[], defers := [] } w :=
  ⟨rfl, .nil, hH.hp, hH.inj, hH.apart, fun i l b h1 h2 => ⟨.inl ⟨i, l, h1, h2⟩, hH.lt i l b h1 h2⟩, hH.out, rfl, rfl, rfl, Nat.le_refl _, fun _ _ _ => rfl⟩
/-- What a contract says, of a state behind the call. -/
theorem Rel.post {hp : List Blk} {ans : Ans} {v : Value} {a : Act} {tm : List AV} (hR : Rel tid w (ownE I) F I' ⟨tm, (ans.hp ++ ans.extra).map some⟩ a w') (hv : ValR w' (Own F I') I' v ans.res) (hg : ans.given = none)
    (hk : ∀ i, i < hp.length → (∀ b, I i = some (.box b) → I' i = some (.box b)) ∧ (∀ b v, I i = some (.bld b v) → ∃ v', I' i = some (.bld b v')) ∧ (∀ n t v, I i = some (.row n t v) → ∃ n' t' v', I' i = some (.row n' t' v') ∧ (hasN ans.same i = true → n' = 0 ∧ t' = t ∧ (n = 0 → v' = v)))) :
    ∃ v' I'', Ending.returned v = .returned v' ∧ ValR w' (Own F I'') I'' v' ans.res ∧ HRel tid F I'' ((ans.hp ++ ans.extra).map some) w' ∧ (∀ p, ans.given = some p → p) ∧
      (∀ i, i < hp.length → (∀ b, I i = some (.box b) → I'' i = some (.box b)) ∧ (∀ b v, I i = some (.bld b v) → ∃ v', I'' i = some (.bld b v')) ∧ (∀ n t v, I i = some (.row n t v) → ∃ n' t' v', I'' i = some (.row n' t' v') ∧ (hasN ans.same i = true → n' = 0 ∧ t' = t ∧ (n = 0 → v' = v)))) ∧
      (∀ i l b, I'' i = some l → l.has b → (∃ j l0, I j = some l0 ∧ l0.has b) ∨ w.heap.size ≤ b) ∧
      w'.os = w.os ∧ w'.tape = w.tape ∧ w'.output = w.output ∧ w.heap.size ≤ w'.heap.size ∧ (∀ b, b < w.heap.size → (∀ i l, I i = some l → ¬ l.has b) → w'.heap[b]? = w.heap[b]?) :=
  ⟨v, I', rfl, hv, hR.toH, fun p hp => (by rw [hg] at hp; cases hp), hk, fun i l b h1 h2 => (hR.place i l b h1 h2).1, hR.os, hR.tape, hR.output, hR.size, fun b hb hn => hR.kept b hb fun ⟨i, l, h1, h2⟩ => hn i l h1 h2⟩
/-- A row in its block, the block turned. -/
theorem Rel.turn {w0 : World} {E : Nat → Prop} {s : St} {a : Act} (hR : Rel tid w0 E F I s a w) {id g n cap m : Nat} {t : Ty} {xs ys : List (den t)} {cur' : Array Value} (hb : s.hp.getD id none = some (.rowb m t xs)) (hI : I id = some (.row m t (.slice (some ⟨g, 0, none⟩) n cap)))
    (hT : Turn w w' g (tid t) cur') (hcs : cur'.size = cap * width t) (hcap : cap ≤ maxLen) (hy : ys.length ≤ cap) (hm : ys.length ≤ maxSl) (hall : All2 (LeafR w (Own F I) I) (cur'.toList.take (ys.length * width t)) (cellsOf t ys)) :
    Rel tid w0 E F (iup I id (.row (m + 1) t (.slice (some ⟨g, 0, none⟩) ys.length cap))) ⟨s.tm, s.hp.set id (some (.rowb (m + 1) t ys))⟩ a w' ∧
      LeafR w' (Own F (iup I id (.row (m + 1) t (.slice (some ⟨g, 0, none⟩) ys.length cap)))) (iup I id (.row (m + 1) t (.slice (some ⟨g, 0, none⟩) ys.length cap))) (.slice (some ⟨g, 0, none⟩) ys.length cap) (.own id (m + 1)) := by
  have hid : id < s.hp.length := by
    rcases Nat.lt_or_ge id s.hp.length with h' | h'
    · exact h'
    · rw [List.getD_eq_getElem?_getD, List.getElem?_eq_none h'] at hb; cases hb
  have hg : (Loc.row m t (.slice (some ⟨g, 0, none⟩) n cap)).has g := rfl
  have hlt := (hR.place id _ g hI hg).2
  refine ⟨hR.upd hid (fun l0 h0 => ?_) (fun k hk hn => hT.block k hk fun e => hn _ hI (by rw [e]; exact hg)) (fun k hk => ?_) hT.os hT.tape hT.output hT.size fun hmono => ?_, own_new (iup_same _ _ _) rfl⟩
  · rw [hI] at h0; injection h0 with h0; subst h0
    exact .inr (.inr ⟨m, m + 1, t, _, _, rfl, rfl, Nat.lt_succ_self m⟩)
  · have : k = g := by injection (show some g = some k from hk) with e; exact e.symm
    subst this
    exact ⟨.inl ⟨_, hI, hg⟩, Nat.lt_of_lt_of_le hlt hT.size⟩
  · refine ⟨_, _, rfl, hm, ⟨?_, .inr ⟨g, cap, cur', rfl, Nat.zero_le _, hT.at_, hy, hcap, hcs, rfl⟩⟩, hall.mono fun v x h => hmono v x h⟩
    have e : cur'.toList.length = cap * width t := by rw [Array.length_toList, hcs]
    rw [List.length_take, e, Nat.min_eq_left (Nat.mul_le_mul_right _ hy)]
end
theorem cellsOf_append (t : Ty) (xs ys : List (den t)) : cellsOf t (xs ++ ys) = cellsOf t xs ++ cellsOf t ys := by unfold cellsOf; rw [List.flatMap_append]
def conDel (t : Ty) : Con := fun args hp => match args, hp with
  | [.own 0 0, .int .i64 i, .int .i64 j], [.rowb 0 u xs] => (castRow t xs).bind fun xs => some { pre := some (0 ≤ i ∧ i < j ∧ j ≤ xs.length), res := .own 0 1, hp := [.rowb 1 t (xs.take i.toNat ++ xs.drop j.toNat)] }
  | _, _ => none
theorem castRow_blk {t u : Ty} {xs : List (den u)} {ys : List (den t)} (h : castRow t xs = some ys) (n : Nat) : Blk.rowb n u xs = Blk.rowb n t ys := by
  unfold castRow at h
  split at h
  · rename_i e _
    subst e
    injection h with h; subst h; rfl
  · cases h
theorem del_holds {t : Ty} {f : FuncId} (hdel : ∀ (g n cap i j : Nat) (cur : Array Value) (w : World), w.heap[g]? = some (.cells cur (cx0.tid t) (0, 0)) → n ≤ cap → cap ≤ maxLen → cur.size = cap * width t → (∀ u ∈ cur.toList.take (n * width t), u.oneCell' = true) → i < j → j ≤ n →
    Calls Try.prog f #[.slice (some ⟨g, 0, none⟩) n cap, .int .i64 i, .int .i64 j] w fun e w' => e = .returned (.slice (some ⟨g, 0, none⟩) (n - (j - i)) cap) ∧
      ∃ cur', Turn w w' g (cx0.tid t) cur' ∧ cur'.size = cur.size ∧ cur'.toList.take ((n - (j - i)) * width t) = cur.toList.take (i * width t) ++ (cur.toList.take (n * width t)).drop (j * width t)) : Holds f (conDel t) := by
  intro args hp ans hc
  unfold conDel at hc
  split at hc
  case h_2 => cases hc
  rename_i i j u xs0
  simp only [Option.bind_eq_some_iff] at hc
  obtain ⟨xs, hx, hc⟩ := hc
  injection hc with hc
  subst hc
  rw [castRow_blk hx]
  intro F I w vals hH hv hpre
  obtain ⟨h0, h1, h2⟩ := hpre _ rfl
  cases hv with | cons a0 hv => cases hv with | cons a1 hv => cases hv with | cons a2 hv =>
  cases hv
  cases (show LeafR _ _ _ _ (.int .i64 i) from a1)
  cases (show LeafR _ _ _ _ (.int .i64 j) from a2)
  obtain ⟨in_, rfl⟩ := Int.eq_ofNat_of_zero_le h0
  obtain ⟨jn, rfl⟩ := Int.eq_ofNat_of_zero_le (by omega : 0 ≤ j)
  have hb := hH.hp 0
  obtain ⟨l0, hl0, v, vs, rfl, hmx, hown, hall⟩ := hb
  have hv0 := ((ValR.own (show ValR w (Own F I) I _ (.own 0 0) from .of1 a0)).2.2 _ _ _ hl0).2 rfl
  subst hv0
  rcases hown.2 with ⟨rfl, hz⟩ | ⟨g, cap, cur, rfl, _, hg, hn, hcm, hcs, htake⟩
  · omega
  have hone : ∀ u ∈ cur.toList.take (xs.length * width t), u.oneCell' = true := by
    intro u hu
    rw [htake] at hu
    obtain ⟨k, hk⟩ := List.getElem?_of_mem hu
    obtain ⟨x, _, hx⟩ := hall.get' hk
    exact hx.one
  have hj : jn ≤ xs.length := by omega
  refine (hdel g xs.length cap in_ jn cur w hg hn hcm hcs hone (by omega) hj).mono ?_
  rintro e w' ⟨rfl, cur', hT, hsz, htk⟩
  simp only [Int.toNat_natCast]
  have hlen : (xs.take in_ ++ xs.drop jn).length = xs.length - (jn - in_) := by simp only [List.length_append, List.length_take, List.length_drop]; omega
  have hR := hH.toRel
  obtain ⟨hR', hl'⟩ := hR.turn (id := 0) (ys := xs.take in_ ++ xs.drop jn) (by rfl) hl0 hT (hsz.trans hcs) hcm (by omega) (by omega) (by
    rw [hlen, htk, cellsOf_append, cellsOf_take, cellsOf_drop, htake]
    have e1 : cur.toList.take (in_ * width t) = vs.take (in_ * width t) := by
      rw [← htake, List.take_take, Nat.min_eq_left (Nat.mul_le_mul_right _ (by omega))]
    rw [e1]
    exact (hall.take _).append (hall.drop _))
  rw [hlen] at hR' hl'
  refine Rel.post (ans := { res := .own 0 1, hp := [.rowb 1 t (xs.take in_ ++ xs.drop jn)] }) hR' (.leaf hl') rfl fun i hi => ?_
  have : i = 0 := by simpa using hi
  subst this
  rw [hl0]
  exact ⟨fun b h => (nomatch h), fun b v h => (nomatch h), fun n t v h => ⟨_, _, _, iup_same _ _ _, fun h => (nomatch h)⟩⟩
theorem delOne_holds : Holds 51 (conDel .one) := del_holds (t := .one) ondel
theorem delNd_holds : Holds 90 (conDel .node) := del_holds (t := .node) nddel
end Go.Proofs.Ytmkjjopflncedaa.AX
end
section
namespace Go.Proofs.Ytmkjjopflncedaa.AX
open Go Go.Shelf Go.RowKit Go.Lib
set_option linter.unusedVariables false
set_option linter.unusedSimpArgs false
def lays166_ren : Go.Shelf.Ren := ⟨fun | 166 => 110 | 240 => 116 | 276 => 118 | n => n, fun | 0 => 0 | 3 => 3 | 4 => 4 | 9 => 9 | 20 => 20 | 37 => 147 | 70 => 146 | 72 => 149 | 75 => 151 | 80 => 156 | 164 => 164 | 5 => 5 | n => n, fun | n => n⟩
theorem lays166 : Go.Proofs.Lays.n166 Try.prog lays166_ren := {
  mixed := by kernel_rfl
  f166 := Try.func110.trans (congrArg some (by kernel_rfl))
  f240 := Try.func116.trans (congrArg some (by kernel_rfl))
  f276 := Try.func118.trans (congrArg some (by kernel_rfl))
  t0 := Try.underlying0
  a0 := Try.isAgg0
  z0 := Try.sizeOf0
  v0 := Try.zeroValue0
  t3 := Try.underlying3
  a3 := Try.isAgg3
  z3 := Try.sizeOf3
  v3 := Try.zeroValue3
  t4 := Try.underlying4
  a4 := Try.isAgg4
  z4 := Try.sizeOf4
  v4 := Try.zeroValue4
  t9 := Try.underlying9
  a9 := Try.isAgg9
  z9 := Try.sizeOf9
  v9 := Try.zeroValue9
  t20 := Try.underlying20
  a20 := Try.isAgg20
  z20 := Try.sizeOf20
  v20 := Try.zeroValue20
  t37 := Try.underlying147
  a37 := Try.isAgg147
  z37 := Try.sizeOf147
  v37 := Try.zeroValue147
  t70 := Try.underlying146
  a70 := Try.isAgg146
  z70 := Try.sizeOf146
  v70 := Try.zeroValue146
  t72 := Try.underlying149
  a72 := Try.isAgg149
  z72 := Try.sizeOf149
  v72 := Try.zeroValue149
  t75 := Try.underlying151
  a75 := Try.isAgg151
  z75 := Try.sizeOf151
  v75 := Try.zeroValue151
  t164 := Try.underlying164
  a164 := Try.isAgg164
  z164 := Try.sizeOf164
  v164 := Try.zeroValue164 }
theorem extra166 : Builder.Extra Try.prog lays166_ren := {
  sizeBuilder := by kernel_rfl
  liesBuilder := by kernel_rfl
  t5 := Try.underlying5
  a5 := Try.isAgg5
  z5 := Try.sizeOf5
  v5 := Try.zeroValue5
  infoByte := by kernel_rfl
  cellsByte := by kernel_rfl
  sizeByte := by kernel_rfl
  neB5 := by decide }
def lays169_ren : Go.Shelf.Ren := ⟨fun | 169 => 113 | n => n, fun | 70 => 146 | 9 => 9 | 0 => 0 | 72 => 149 | 37 => 147 | 127 => 162 | 3 => 3 | 5 => 5 | n => n, fun | n => n⟩
theorem lays169 : Go.Proofs.Lays.n169 Try.prog lays169_ren := {
  mixed := by kernel_rfl
  f169 := Try.func113.trans (congrArg some (by kernel_rfl))
  t0 := Try.underlying0
  a0 := Try.isAgg0
  z0 := Try.sizeOf0
  v0 := Try.zeroValue0
  t3 := Try.underlying3
  a3 := Try.isAgg3
  z3 := Try.sizeOf3
  v3 := Try.zeroValue3
  t9 := Try.underlying9
  a9 := Try.isAgg9
  z9 := Try.sizeOf9
  v9 := Try.zeroValue9
  t37 := Try.underlying147
  a37 := Try.isAgg147
  z37 := Try.sizeOf147
  v37 := Try.zeroValue147
  t70 := Try.underlying146
  a70 := Try.isAgg146
  z70 := Try.sizeOf146
  v70 := Try.zeroValue146
  t72 := Try.underlying149
  a72 := Try.isAgg149
  z72 := Try.sizeOf149
  v72 := Try.zeroValue149
  t127 := Try.underlying162
  a127 := Try.isAgg162
  z127 := Try.sizeOf162
  v127 := Try.zeroValue162 }
theorem extra169 : Builder.Extra Try.prog lays169_ren := {
  sizeBuilder := by kernel_rfl
  liesBuilder := by kernel_rfl
  t5 := Try.underlying5
  a5 := Try.isAgg5
  z5 := Try.sizeOf5
  v5 := Try.zeroValue5
  infoByte := by kernel_rfl
  cellsByte := by kernel_rfl
  sizeByte := by kernel_rfl
  neB5 := by decide }


/-- Where the row lies behind a string's append: where it lay, or in new memory. -/
theorem app_string (w : World) (i : TypeInfo) (hi : Try.prog.info? 5 = some i) (hz : i.zero = some (.int .u8 0)) (hsize : i.size = 1) (hby : i.bytes = 1) (v : Value) (n : Nat) (xs : List Value) (hown : w.ownsRowF 0 5 1 v n xs) (s : ByteArray) (hl : n + s.size ≤ 140737488355328) (ty : TypeId) :
    ∃ v' w', (Builtin.append_ #[147, 9] ty #[v, .string s]).run Try.prog w = .ok v' w' ∧ w'.ownsRowF 0 5 1 v' (n + s.size) (xs ++ strCells s) ∧ w.grownBy w' v.ownBlock ∧ (v' = .slice none 0 0 ↔ v = .slice none 0 0 ∧ s.size = 0) ∧ ∀ k, v'.ownBlock = some k → v.ownBlock = some k ∨ w.heap.size ≤ k := by
  have h63 : n + s.size ≤ maxLen := by unfold maxLen; omega
  rcases hown.2 with ⟨rfl, rfl⟩ | ⟨g, cap, cur, fz, rfl, hbg, hg, hfz, hnc, hcm, hcs, htake⟩
  · obtain ⟨v', w', h1, h2, h3, h4⟩ := run_append_own_stringF (P := Try.prog) (w := w) w.heap.size 147 9 ty 5 i Try.underlying147 Try.underlying9 hi hz hsize hby (.slice none 0 0) 0 xs ⟨hown.1, .inl ⟨rfl, rfl⟩⟩ s h63 hl (Nat.le_refl _)
    refine ⟨v', w', h1, ⟨h2.1, ?_⟩, h3, h4, fun k hk => .inr (h2.lt k hk).1⟩
    rcases h2.2 with h | ⟨g, cap, cur, fz, e, _, r⟩
    · exact .inl h
    · exact .inr ⟨g, cap, cur, fz, e, Nat.zero_le _, r⟩
  · obtain ⟨v', w', h1, h2, h3, h4⟩ := run_append_own_stringF (P := Try.prog) (w := w) 0 147 9 ty 5 i Try.underlying147 Try.underlying9 hi hz hsize hby _ n xs hown s h63 hl (Nat.zero_le _)
    refine ⟨v', w', h1, h2, h3, h4, fun k hk => ?_⟩
    by_cases hroom : n + s.size ≤ cap
    · have hr := run_append_room_stringF (P := Try.prog) (w := w) 147 9 ty 5 i Try.underlying147 Try.underlying9 hi hsize g n cap cur fz hg (by simpa using hfz) s hroom (by omega)
      rw [hr] at h1
      injection h1 with h1 _
      subst h1
      exact .inl hk
    · have hr := run_append_grow_string (P := Try.prog) (w := w) 147 9 ty 5 i (.int .u8 0) Try.underlying147 Try.underlying9 hi hz ⟨g, 0, none⟩ n cap xs (by rw [hsize]; simpa using hown.1) (hown.cells (g := g) rfl) s (by omega) (by omega) (by rw [hby]; exact growslice_fits (by omega) (by omega))
      rw [hr] at h1
      injection h1 with h1 _
      subst h1
      cases hk
      exact .inr (Nat.le_refl _)
/-- What a write leaves. -/
def BldPost (b : Nat) (v : Value) (n m : Nat) (vs news : List Value) (w : World) (e : Ending) (w' : World) : Prop :=
  (∃ r, e = .returned r) ∧ ∃ v', w'.heap[b]? = some (.cells #[.pointer (some ⟨b, 0, none⟩), v'] 149 (0, 0)) ∧ w'.ownsRowF 0 5 1 v' (n + m) (vs ++ news) ∧ v'.ownBlock ≠ some b ∧ (n + m = 0 → v = .slice none 0 0 → v' = .slice none 0 0) ∧
    (∀ k, v'.ownBlock = some k → v.ownBlock = some k ∨ w.heap.size ≤ k) ∧ w'.os = w.os ∧ w'.tape = w.tape ∧ w'.output = w.output ∧ w.heap.size ≤ w'.heap.size ∧ (∀ k, k < w.heap.size → k ≠ b → v.ownBlock ≠ some k → w'.heap[k]? = w.heap[k]?)
theorem copyCheck_walk (b : Nat) (p v : Value) (w : World) (hb : w.heap[b]? = some (.cells #[p, v] 149 (0, 0))) (hp : p = .pointer none ∨ p = .pointer (some ⟨b, 0, none⟩)) :
    Calls Try.prog 116 #[.pointer (some ⟨b, 0, none⟩)] w fun e w' => e = .returned (.tuple #[]) ∧ w'.heap[b]? = some (.cells #[.pointer (some ⟨b, 0, none⟩), v] 149 (0, 0)) ∧ w'.os = w.os ∧ w'.tape = w.tape ∧ w'.output = w.output ∧ w'.heap.size = w.heap.size ∧ (∀ k, k ≠ b → w'.heap[k]? = w.heap[k]?) := by
  rcases hp with rfl | rfl
  · refine (Any.Builder_copyCheck_fresh { lays166 with } extra166.toX72 b w (by rw [Lib.cell_of_heap hb]; rfl) (by simp [World.shape?, hb]; rfl) (Lib.frozen_of_heap hb 0)).mono ?_
    rintro e w' ⟨rfl, rfl⟩
    refine ⟨rfl, ?_, rfl, rfl, rfl, by simp [World.setCell], fun k hk => ?_⟩
    · simp [World.setCell, Array.getElem?_modify, hb]
    · simp [World.setCell, Array.getElem?_modify, Ne.symm hk]
  · refine (Any.Builder_copyCheck_used { lays166 with } extra166.toX72 b w (by rw [Lib.cell_of_heap hb]; rfl)).mono ?_
    rintro e w' ⟨rfl, rfl⟩
    exact ⟨rfl, hb, rfl, rfl, rfl, rfl, fun _ _ => rfl⟩
set_option maxHeartbeats 8000000 in
set_option maxRecDepth 1000000 in
theorem write_walk (b n : Nat) (p v : Value) (vs : List Value) (s : ByteArray) (w : World) (hb : w.heap[b]? = some (.cells #[p, v] 149 (0, 0))) (hp : p = .pointer none ∨ p = .pointer (some ⟨b, 0, none⟩)) (hne : v.ownBlock ≠ some b)
    (hown : w.ownsRowF 0 5 1 v n vs) (hl : n + s.size ≤ maxSl) :
    Calls Try.prog 110 #[.pointer (some ⟨b, 0, none⟩), .string s] w (BldPost b v n s.size vs (strCells s) w) := by
  obtain ⟨i0, hi, hz0, hz1, hz2⟩ := info_parts extra166.infoByte
  have mixed : Try.prog.follows Departure.mixedOrders = true := by kernel_rfl
  have hlt : b < w.heap.size := (Array.getElem?_eq_some_iff.1 hb).1
  unfold maxSl at hl
  go_enter Try.func110, Try.ntmps110
  go_wp2_with (go_at_call 116; refine (copyCheck_walk b p v _ hb hp).mono ?_)
  rintro e w1 ⟨rfl, h1, ho1, ht1, hu1, hs1, hk1⟩
  have c0 : w1.cell? ⟨b, 0, none⟩ = some (.pointer (some ⟨b, 0, none⟩)) := by rw [Lib.cell_of_heap h1]; rfl
  have c1 : w1.cell? ⟨b, 1, none⟩ = some v := by rw [Lib.cell_of_heap h1]; rfl
  have hown1 : w1.ownsRowF 0 5 1 v n vs := ownsRowF_mono hown fun k hk => hk1 k fun e => hne (by rw [hk, e])
  obtain ⟨v', w2, hrun, hown', hgrow, hnil, hplace⟩ := app_string w1 i0 hi hz0 hz1 hz2 v n vs hown1 s hl 147
  have hb2 : w2.heap[b]? = some (.cells #[.pointer (some ⟨b, 0, none⟩), v] 149 (0, 0)) := by
    rw [hgrow.block b (by omega) (fun e => hne e.symm)]
    exact h1
  have d0 : w2.cell? ⟨b, 0, none⟩ = some (.pointer (some ⟨b, 0, none⟩)) := by rw [Lib.cell_of_heap hb2]; rfl
  have d1 : w2.cell? ⟨b, 1, none⟩ = some v := by rw [Lib.cell_of_heap hb2]; rfl
  have f1 : w2.frozen? ⟨b, 1, none⟩ = false := Lib.frozen_of_heap hb2 1
  have hv' : v'.ownBlock ≠ some b ∧ ∀ k, v'.ownBlock = some k → v.ownBlock = some k ∨ w.heap.size ≤ k := by
    refine ⟨fun e => ?_, fun k hk => by rw [← hs1]; exact hplace k hk⟩
    rcases hplace b e with h | h
    · exact hne h
    · omega
  obtain ⟨ao, n', cap, rfl⟩ : ∃ ao n' cap, v' = .slice ao n' cap := by
    rcases hown'.2 with ⟨hv, _⟩ | ⟨g, cap, cur, fz, hv, _⟩
    · exact ⟨_, _, _, hv⟩
    · exact ⟨_, _, _, hv⟩
  have hnil : Hid (Value.slice ao n' cap = .slice none 0 0 ↔ v = .slice none 0 0 ∧ s.size = 0) := hnil
  go_wp2_with (at_builtin; refine Lib.wpList_append_run _ rfl _ _ _ _ rfl _ _ rfl rfl _ _ hrun ?_)
  go_ret2
  have hset : ∀ k, k ≠ b → (w2.setCell ⟨b, 1, none⟩ (.slice ao n' cap)).heap[k]? = w2.heap[k]? := fun k hk => by simp [World.setCell, Array.getElem?_modify, Ne.symm hk]
  refine ⟨⟨_, rfl⟩, .slice ao n' cap, by simp [World.setCell, Array.getElem?_modify, hb2], ownsRowF_mono hown' fun k hk => hset k fun e => hv'.1 (by rw [hk, e]), hv'.1, fun h0 hv => ?_, hv'.2, hgrow.os.trans ho1, hgrow.tape.trans ht1, hgrow.output.trans hu1, ?_, fun k hk hkb hkv => ?_⟩
  · exact hnil.out.2 ⟨hv, by omega⟩
  · show w.heap.size ≤ (w2.setCell ⟨b, 1, none⟩ (.slice ao n' cap)).heap.size
    have := hgrow.size
    simp only [World.setCell, Array.size_modify]; omega
  · exact (hset k hkb).trans ((hgrow.block k (by omega) (Ne.symm hkv)).trans (hk1 k hkb))
/-- What String leaves. -/
def StrPost (b : Nat) (v : Value) (s : ByteArray) (vs : List Value) (w : World) (e : Ending) (w' : World) : Prop :=
  e = .returned (.string s) ∧ w'.heap[b]? = w.heap[b]? ∧ w'.ownsRowF 0 5 1 v s.size vs ∧ w'.os = w.os ∧ w'.tape = w.tape ∧ w'.output = w.output ∧ w'.heap.size = w.heap.size ∧ (∀ k, v.ownBlock ≠ some k → w'.heap[k]? = w.heap[k]?)
set_option maxHeartbeats 8000000 in
set_option maxRecDepth 1000000 in
theorem string_walk (b : Nat) (p v : Value) (s : ByteArray) (vs : List Value) (w : World) (hb : w.heap[b]? = some (.cells #[p, v] 149 (0, 0))) (hne : v.ownBlock ≠ some b)
    (hown : w.ownsRowF 0 5 1 v s.size vs) (hvs : vs = s.data.toList.map fun b => .int .u8 b.toNat) (h0 : s.size = 0 → v = .slice none 0 0) :
    Calls Try.prog 113 #[.pointer (some ⟨b, 0, none⟩)] w (StrPost b v s vs w) := by
  have mixed : Try.prog.follows Departure.mixedOrders = true := by kernel_rfl
  rcases Nat.eq_zero_or_pos s.size with hz | hz
  · have hv := h0 hz
    subst hv
    have es : s = ⟨#[]⟩ := by
      cases s with | mk d =>
      have : d = #[] := Array.eq_empty_of_size_eq_zero hz
      rw [this]
    have hUS : ∀ w, (Builtin.unsafeString_ #[162, 3] 9 #[.pointer none, .int .i64 0]).run Try.prog w = .ok (.string ⟨#[]⟩) w := fun w => Lib.run_unsafeString_none w _ _ _ none
    have c1 : w.drew.cell? ⟨b, 1, none⟩ = some (.slice none 0 0) := by
      have : w.drew.heap[b]? = some (.cells #[p, .slice none 0 0] 149 (0, 0)) := hb
      rw [Lib.cell_of_heap this]; rfl
    have hSD : (Builtin.unsafeSliceData_ #[147] 162 #[.slice none 0 0]).run Try.prog w.drew = .ok (.pointer none) w.drew := rfl
    have hown' : Hid (w.ownsRowF 0 5 1 (.slice none 0 0) s.size vs) := hown
    clear hown hvs h0 hne
    subst es
    go_enter Try.func113, Try.ntmps113
    go_wp2
    go_region_o
    all_goals (go_wp2; go_ret; exact ⟨rfl, rfl, ownsRowF_mono hown'.out fun _ _ => rfl, rfl, rfl, rfl, rfl, fun _ _ => rfl⟩)
  · obtain ⟨g, cap, cur, fz, rfl, hg, hfz, hnc, hcm, hcs, htake⟩ : ∃ g cap cur fz, v = .slice (some ⟨g, 0, none⟩) s.size cap ∧ w.heap[g]? = some (.cells cur 5 fz) ∧ fz.2 ≤ s.size * 1 ∧ s.size ≤ cap ∧ cap ≤ maxLen ∧ cur.size = cap * 1 ∧ cur.toList.take (s.size * 1) = vs := by
      rcases hown.2 with ⟨_, h⟩ | ⟨g, cap, cur, fz, hv, _, r⟩
      · omega
      · exact ⟨g, cap, cur, fz, hv, r⟩
    obtain ⟨l, hl⟩ : ∃ l, l = s.data.toList := ⟨_, rfl⟩
    have hll : l.length = s.size := by rw [hl, Array.length_toList]; rfl
    have hl0 : l ≠ [] := fun e => by rw [e] at hll; simp at hll; omega
    have es : s = ⟨l.toArray⟩ := by rw [hl]
    have c1 : w.drew.cell? ⟨b, 1, none⟩ = some (.slice (some ⟨g, 0, none⟩) s.size cap) := by
      have : w.drew.heap[b]? = some (.cells #[p, .slice (some ⟨g, 0, none⟩) s.size cap] 149 (0, 0)) := hb
      rw [Lib.cell_of_heap this]; rfl
    have hcap0 : cap ≠ 0 := by omega
    have hSD : (Builtin.unsafeSliceData_ #[147] 162 #[.slice (some ⟨g, 0, none⟩) s.size cap]).run Try.prog w.drew = .ok (.pointer (some ⟨g, 0, none⟩)) w.drew :=
      Lib.run_unsafeSliceData_row _ _ _ _ _ _ hcap0
    have hUS : (Builtin.unsafeString_ #[162, 3] 9 #[.pointer (some ⟨g, 0, none⟩), .int .i64 s.size]).run Try.prog w.drew = .ok (.string ⟨l.toArray⟩) (w.drew.freeze ⟨g, 0, none⟩ s.size) := by
      rw [← hll]
      refine Lib.run_unsafeString_row w.drew 162 3 9 5 Try.underlying162 extra169.cellsByte g cur.size (by have hg' : w.drew.heap[g]? = some (.cells cur 5 fz) := hg; simp [World.shape?, hg']) l hl0 (by omega) (by unfold maxLen at hcm; omega) ?_
      intro j x hx
      have hj : vs[j]? = some (.int .u8 x.toNat) := by rw [hvs, ← hl, List.getElem?_map, hx]; rfl
      exact hown.cells (g := g) rfl j _ hj
    have hF : Hid (∀ k, (w.drew.freeze ⟨g, 0, none⟩ s.size).heap[k]? = if g = k then some (.cells cur 5 (if fz.1 == fz.2 then (0, s.size) else (min fz.1 0, max fz.2 s.size))) else w.heap[k]?) := fun k => by
      have hl1 : s.size ≠ 0 := by omega
      have hgd : w.drew.heap[g]? = some (.cells cur 5 fz) := hg
      have hs : w.drew.heap[k]? = w.heap[k]? := rfl
      simp only [World.freeze, if_neg hl1, Array.getElem?_modify]
      split
      · rename_i e
        subst e
        rw [hgd]
        simp only [Option.map_some, Nat.zero_add]
      · exact hs
    have hown' : Hid (w.ownsRowF 0 5 1 (.slice (some ⟨g, 0, none⟩) s.size cap) s.size vs) := hown
    have HG : Hid (w.heap[g]? = some (.cells cur 5 fz)) := hg
    have HT : Hid (cur.toList.take (s.size * 1) = vs) := htake
    have HN : Hid ((Value.slice (some ⟨g, 0, none⟩) s.size cap).ownBlock ≠ some b) := hne
    have HB : Hid (w.heap[b]? = some (.cells #[p, .slice (some ⟨g, 0, none⟩) s.size cap] 149 (0, 0))) := hb
    have HL : Hid (vs.length = s.size * 1) := hown.1
    have HF : Hid (fz.2 ≤ s.size * 1) := hfz
    clear hown hvs h0 hg htake hne hb hfz
    have HE : Hid (s = ⟨l.toArray⟩) := es
    have HLL : Hid (l.length = s.size) := hll
    clear es hl
    go_enter Try.func113, Try.ntmps113
    go_wp2
    go_region_o
    all_goals
      go_wp2
      go_ret
      refine ⟨congrArg Ending.returned (show Value.string ⟨l.toArray⟩ = .string s from by rw [HE.out]), ?_, ⟨HL.out, .inr ⟨g, cap, cur, _, rfl, Nat.zero_le _, by rw [hF.out, if_pos rfl], ?_, hnc, hcm, hcs, HT.out⟩⟩, ?_, ?_, ?_, ?_, fun k hk => ?_⟩
      · rw [hF.out, if_neg (fun e => HN.out (by rw [← e]; rfl))]
      · have := HF.out
        split
        · show s.size ≤ s.size * 1; omega
        · show max fz.2 s.size ≤ s.size * 1; omega
      · simp only [World.freeze]; split <;> rfl
      · simp only [World.freeze]; split <;> rfl
      · simp only [World.freeze]; split <;> rfl
      · simp only [World.freeze]; split
        · rfl
        · simp
      · rw [hF.out, if_neg (fun e => hk (by rw [← e]; rfl))]
end Go.Proofs.Ytmkjjopflncedaa.AX
end
section
namespace Go.Proofs.Ytmkjjopflncedaa.AX
open Go Go.RowKit
section
variable {tid : Ty → TypeId} {w0 w w' : World} {E F : Nat → Prop} {I : Im} {s : St} {a : Act}
/-- A Builder turns. -/
theorem Rel.bldTurn (hR : Rel tid w0 E F I s a w) {id b : Nat} {v v' p : Value} {vs : List Value} {t t' : ByteArray} (hb : s.hp.getD id none = some (.bld t)) (hI : I id = some (.bld b v))
    (h1 : w'.heap[b]? = some (.cells #[p, v'] (tid .bld) (0, 0))) (hp : p = .pointer none ∨ p = .pointer (some ⟨b, 0, none⟩)) (hne : v'.ownBlock ≠ some b) (hown : w'.ownsRowF 0 (tid .u8) 1 v' t'.size vs) (hvs : vs = t'.data.toList.map fun b => .int .u8 b.toNat) (h0 : t'.size = 0 → v' = .slice none 0 0)
    (hpl : ∀ k, v'.ownBlock = some k → v.ownBlock = some k ∨ w.heap.size ≤ k) (hos : w'.os = w.os) (htape : w'.tape = w.tape) (hout : w'.output = w.output) (hsz : w.heap.size ≤ w'.heap.size)
    (hk : ∀ k, k < w.heap.size → k ≠ b → v.ownBlock ≠ some k → w'.heap[k]? = w.heap[k]?) :
    Rel tid w0 E F (iup I id (.bld b v')) ⟨s.tm, s.hp.set id (some (.bld t'))⟩ a w' := by
  have hid : id < s.hp.length := by
    rcases Nat.lt_or_ge id s.hp.length with h' | h'
    · exact h'
    · rw [List.getD_eq_getElem?_getD, List.getElem?_eq_none h'] at hb; cases hb
  have hI' : ImLe I (iup I id (.bld b v')) := by
    intro k lk hkk
    by_cases e : k = id
    · subst e
      rw [hI] at hkk; injection hkk with hkk; subst hkk
      exact ⟨_, iup_same _ _ _, .inr (.inr (.inr ⟨b, v, v', rfl, rfl⟩))⟩
    · exact ⟨lk, by rw [iup_ne _ _ e]; exact hkk, .inl rfl⟩
  have hlt : b < w.heap.size := (hR.place id _ b hI (.inl rfl)).2
  have hlt' : b < w'.heap.size := Nat.lt_of_lt_of_le hlt hsz
  have hv' : ∀ k, v'.ownBlock = some k → k < w'.heap.size := fun k hk => (hown.lt k hk).2
  have hO : ∀ g, g < w.heap.size → Own F (iup I id (.bld b v')) g → Own F I g := by
    intro g hg h
    rcases h with h | ⟨k, lk, hkk, hh⟩
    · exact .inl h
    · by_cases e : k = id
      · subst e
        rw [iup_same] at hkk
        injection hkk with hkk
        subst hkk
        rcases hh with rfl | hh
        · exact .inr ⟨k, _, hI, .inl rfl⟩
        · rcases hpl g hh with h | h
          · exact .inr ⟨k, _, hI, .inr h⟩
          · omega
      · rw [iup_ne _ _ e] at hkk
        exact .inr ⟨k, lk, hkk, hh⟩
  have hw' : ∀ g, ¬ Own F I g → g < w.heap.size → w'.heap[g]? = w.heap[g]? := fun g hn hg => hk g hg (fun e => hn (.inr ⟨id, _, hI, .inl e⟩)) (fun e => hn (.inr ⟨id, _, hI, .inr e⟩))
  have old : ∀ k lk g, k ≠ id → I k = some lk → lk.has g → ¬ (Loc.bld b v').has g := fun k lk g e h1 h2 h3 => by
    have hg := (hR.place k lk g h1 h2).2
    rcases h3 with h3 | h3
    · exact e (hR.inj k id lk _ g h1 hI h2 (.inl h3))
    · rcases hpl g h3 with h | h
      · exact e (hR.inj k id lk _ g h1 hI h2 (.inr h))
      · omega
  refine ⟨hR.defers, hR.tm.mono fun _ _ h => h.mono hw' hO hI', fun k => ?_, fun k k' lk lk' g hk1 hk2 h3 h4 => ?_, fun k lk g h1 h2 hF => ?_, fun k lk g h1 h2 => ?_, hR.out, hos.trans hR.os, htape.trans hR.tape, hout.trans hR.output, Nat.le_trans hR.size hsz, fun g hg hE => ?_⟩
  · by_cases e : k = id
    · subst e
      rw [getD_set_same hid]
      exact ⟨_, iup_same _ _ _, b, v', p, _, vs, rfl, rfl, h1, hp, hne, hown, hvs, h0⟩
    · rw [getD_set_ne e, iup_ne _ _ e]
      have hkk := hR.hp k
      generalize s.hp.getD k none = ob at hkk ⊢
      cases ob with
      | some bk =>
        obtain ⟨lk, q1, q2⟩ := hkk
        refine ⟨lk, q1, q2.mono hw' hO hI' fun g hg => hk g (hR.place k lk g q1 hg).2 (fun e' => ?_) (fun e' => ?_)⟩
        · exact e (hR.inj k id lk _ g q1 hI hg (.inl e'))
        · exact e (hR.inj k id lk _ g q1 hI hg (.inr e'))
      | none => exact hkk
  · by_cases e : k = id
    · by_cases e' : k' = id
      · rw [e, e']
      · subst e
        rw [iup_same] at hk1; injection hk1 with hk1; subst hk1
        rw [iup_ne _ _ e'] at hk2
        exact absurd h3 (old k' lk' g e' hk2 h4)
    · rw [iup_ne _ _ e] at hk1
      by_cases e' : k' = id
      · subst e'
        rw [iup_same] at hk2; injection hk2 with hk2; subst hk2
        exact absurd h4 (old k lk g e hk1 h3)
      · rw [iup_ne _ _ e'] at hk2
        exact hR.inj k k' lk lk' g hk1 hk2 h3 h4
  · by_cases e : k = id
    · subst e
      rw [iup_same] at h1; injection h1 with h1; subst h1
      rcases h2 with h2 | h2
      · exact hR.apart k _ g hI (.inl h2) hF
      · rcases hpl g h2 with h | h
        · exact hR.apart k _ g hI (.inr h) hF
        · have := hR.out g hF; have := hR.size; omega
    · rw [iup_ne _ _ e] at h1
      exact hR.apart k lk g h1 h2 hF
  · by_cases e : k = id
    · subst e
      rw [iup_same] at h1; injection h1 with h1; subst h1
      rcases h2 with h2 | h2
      · exact ⟨(hR.place k _ g hI (.inl h2)).1, by rw [h2]; exact hlt'⟩
      · rcases hpl g h2 with h | h
        · exact ⟨(hR.place k _ g hI (.inr h)).1, hv' g h2⟩
        · exact ⟨.inr (Nat.le_trans hR.size h), hv' g h2⟩
    · rw [iup_ne _ _ e] at h1
      have := hR.place k lk g h1 h2
      exact ⟨this.1, Nat.lt_of_lt_of_le this.2 hsz⟩
  · have hg' := Nat.lt_of_lt_of_le hg hR.size
    refine (hk g hg' (fun e => ?_) (fun e => ?_)).trans (hR.kept g hg hE)
    · rcases (hR.place id _ g hI (.inl e)).1 with h | h
      · exact hE h
      · omega
    · rcases (hR.place id _ g hI (.inr e)).1 with h | h
      · exact hE h
      · omega
end
theorem strCells_eq (s : ByteArray) : Lib.strCells s = s.data.toList.map fun b => Value.int .u8 b.toNat := rfl
def conWrite : Con := fun args hp => match args, hp with
  | [.ptr 0 0, .str s], [.bld t] => some { pre := some (t.size + s.size ≤ maxSl), res := .any, hp := [.bld (t ++ s)] }
  | _, _ => none
theorem write_holds : Holds 110 conWrite := by
  intro args hp ans hc
  unfold conWrite at hc
  split at hc
  case h_2 => cases hc
  rename_i s t
  injection hc with hc
  subst hc
  intro F I w vals hH hv hpre
  have p1 : t.size + s.size ≤ maxSl := hpre _ rfl
  cases hv with | cons a0 q => cases q with | cons a1 q => cases q with | nil =>
  rename_i v0 v1
  have hR := HRel.toRel hH
  obtain ⟨l0, hl0, g, v, p, ty, vs, rfl, rfl, h1, h2, h3, h4, h5, h6⟩ := hH.hp 0
  have e0 : v0 = .pointer (some ⟨g, 0, none⟩) := (ValR.ptr (w := w) (show ValR w (Own F I) I v0 (.ptr 0 0) from a0)).2.2.2 g v hl0 rfl
  obtain ⟨e1, _⟩ := (show ValR w (Own F I) I v1 (.str s) from a1).str
  subst e0; subst e1
  refine (write_walk g t.size p v vs s w h1 h2 h3 h4 p1).mono ?_
  rintro e w' ⟨⟨r, rfl⟩, v', q1, q2, q3, q4, q5, q6, q7, q8, q9, q10⟩
  have hsz : (t ++ s).size = t.size + s.size := ByteArray.size_append
  have hR' := hR.bldTurn (id := 0) (t' := t ++ s) (t := t) rfl hl0 q1 (.inr rfl) q3 (by rw [hsz]; exact q2) (by rw [h5, strCells_eq, ByteArray.data_append, Array.toList_append, List.map_append]) (fun hz => q4 (by omega) (h6 (by omega))) q5 q6 q7 q8 q9 q10
  refine Rel.post (ans := { pre := some (t.size + s.size ≤ maxSl), res := .any, hp := [.bld (t ++ s)] }) hR' trivial rfl fun i hi => ?_
  have : i = 0 := by simp at hi; exact hi
  subst this
  refine ⟨fun b hb => ?_, fun b u hb => ?_, fun n t' u hb => ?_⟩
  · rw [hl0] at hb; injection hb with hb; cases hb
  · rw [hl0] at hb; injection hb with hb; injection hb with hb; subst hb; exact ⟨v', iup_same _ _ _⟩
  · rw [hl0] at hb; injection hb with hb; cases hb
def conString : Con := fun args hp => match args, hp with
  | [.ptr 0 0], [.bld t] => some { pre := some (t.size ≤ maxSl), res := .str t, hp := [.bld t] }
  | _, _ => none
theorem string_holds : Holds 113 conString := by
  intro args hp ans hc
  unfold conString at hc
  split at hc
  case h_2 => cases hc
  rename_i t
  injection hc with hc
  subst hc
  intro F I w vals hH hv hpre
  cases hv with | cons a0 q => cases q with | nil =>
  rename_i v0
  have hR := HRel.toRel hH
  obtain ⟨l0, hl0, g, v, p, ty, vs, rfl, rfl, h1, h2, h3, h4, h5, h6⟩ := hH.hp 0
  have e0 : v0 = .pointer (some ⟨g, 0, none⟩) := (ValR.ptr (w := w) (show ValR w (Own F I) I v0 (.ptr 0 0) from a0)).2.2.2 g v hl0 rfl
  subst e0
  refine (string_walk g p v t vs w h1 h3 h4 h5 h6).mono ?_
  rintro e w' ⟨rfl, q1, q2, q3, q4, q5, q6, q7⟩
  have hR' := hR.bldTurn (id := 0) (t' := t) (t := t) rfl hl0 (q1.trans h1) h2 h3 q2 h5 h6 (fun k hk => .inl hk) q3 q4 q5 (by omega) (fun k _ _ hk => q7 k hk)
  have hsz : t.size ≤ maxSl := hpre _ rfl
  refine Rel.post (ans := { pre := some (t.size ≤ maxSl), res := .str t, hp := [.bld t] }) hR' (.leaf (.str t hsz)) rfl fun i hi => ?_
  have : i = 0 := by simp at hi; exact hi
  subst this
  refine ⟨fun b hb => ?_, fun b u hb => ?_, fun n t' u hb => ?_⟩
  · rw [hl0] at hb; injection hb with hb; cases hb
  · rw [hl0] at hb; injection hb with hb; injection hb with hb; subst hb; exact ⟨v, iup_same _ _ _⟩
  · rw [hl0] at hb; injection hb with hb; cases hb
end Go.Proofs.Ytmkjjopflncedaa.AX
end
section
set_option linter.unusedVariables false
set_option linter.unusedSimpArgs false
namespace Go.Proofs.Ytmkjjopflncedaa.AX
open Go Go.Shelf Go.RowKit Go.Lib

/-- A copy whose run is known, as an operation; as a step of a region that draws. -/
theorem wp_copy_run {P : Program} (w : World) {o : Oper} {a : Act} {K : Act → World → Prop} {Q : Exit → Act → World → Prop} (d s : Operand) (t t' : TypeId) (ho : o.op = .call { callee := .builtin .copy, args := #[d, s], argTypes := #[t, t'] }) (v u : Value) (hd : a.eval d = v) (hs : a.eval s = u) {v' : Value} {w' : World}
    (hr : (Builtin.copy_ #[t, t'] o.type #[v, u]).run P w = .ok v' w') (h : K (a.put o.dst v') w') : o.wp P a w K Q := by
  unfold Oper.wp execOp
  simp only [ho, resolve, invoke, builtin, Sem.run_bind, Sem.run_pure, Result.andThen_ok, List.map_toArray, List.map_cons, List.map_nil, hd, hs, hr]
  exact h
theorem wpList_copy_run {P : Program} (w : World) {ops : Array Oper} {rest : List Oper} {o : Oper} {a : Act} {Q : Exit → Act → World → Prop} (hgd : o.guard = none) (d s : Operand) (t t' : TypeId) (ho : o.op = .call { callee := .builtin .copy, args := #[d, s], argTypes := #[t, t'] }) (v u : Value) (hd : a.eval d = v) (hs : a.eval s = u) {v' : Value} {w' : World}
    (hr : (Builtin.copy_ #[t, t'] o.type #[v, u]).run P w = .ok v' w') (h : wpList P ops Q rest (a.put o.dst v') w') : wpList P ops Q (o :: rest) a w :=
  wpList_plain hgd fun _ hK => wp_copy_run w d s t t' ho v u hd hs hr (hK _ _ h)
theorem step_copy_run {P : Program} {ops : Array Oper} {o : Oper} {a : Act} {w : World} {K : Act → World → Prop} {Q : Exit → Act → World → Prop} {E : Prop} (hg : o.guard = none) (d x : Operand) (dT sT : TypeId) (hop : o.op = Op.call { callee := Callee.builtin Builtin.copy, args := #[d, x], argTypes := #[dT, sT] })
    (v u : Value) (hd : a.eval d = v) (hx : a.eval x = u) {v' : Value} {w' : World} (hr : (Builtin.copy_ #[dT, sT] o.type #[v, u]).run P w = .ok v' w') (hK : K (a.put o.dst v') w') : if Region.wanted o (yielded ops a.tmps) = true then Oper.wp P o a w K Q else E := by
  have hw : Region.wanted o (yielded ops a.tmps) = true := by simp [Region.wanted, hg]
  rw [if_pos hw]
  exact wp_copy_run w d x dT sT hop v u hd hx hr hK
theorem size_nd : ∀ w, (Go.sizeOf 53).run Try.prog w = .ok 6 w := fun w => by kernel_rfl
theorem shape_of {w : World} {g : Nat} {cur : Array Value} {e : TypeId} {fr : Nat × Nat} (hg : w.heap[g]? = some (.cells cur e fr)) : w.shape? g = some (e, cur.size) := by simp [World.shape?, hg]
theorem overlap_no (w : World) (gv g o lv cv lb cb : Nat) (curv cur : Array Value) (ev e : TypeId) (hne : gv ≠ g) (hv : w.heap[gv]? = some (.cells curv ev (0, 0))) (hg : w.heap[g]? = some (.cells cur e (0, 0))) (h0 : cur.size ≠ 0) :
    (callFunc 106 #[.slice (some ⟨gv, 0, none⟩) lv cv, .slice (some ⟨g, o, none⟩) lb cb]).run Try.prog w = .ok (.value (.bool false)) w := by
  rw [run_callFunc_extern Try.func106 (by kernel_rfl) (by kernel_rfl) (by kernel_rfl) (e := Extern.SlicesOverlaps.overlaps #[22, 22] #[4]) (by kernel_rfl),
    Lib.run_overlaps_apart w 22 4 53 Try.underlying22 6 size_nd ⟨gv, 0, none⟩ ⟨g, o, none⟩ lv cv lb cb hne ev e curv.size cur.size (shape_of hv) (shape_of hg) h0 (frozen_of hv _) (frozen_of hv _)]
  rfl
/-- Cells moved one element up, and an element put ahead of them. -/
theorem shift_cells {cur : Array Value} {i n : Nat} {mv es : List Value} (hi : i * 6 ≤ cur.size) (he : es.length = 6) (hn : (n + 1) * 6 ≤ cur.size) (hm : (i + 1) * 6 + mv.length = (n + 1) * 6) : (splice (splice cur ((i + 1) * 6) mv) (i * 6) es).toList.take ((n + 1) * 6) = cur.toList.take (i * 6) ++ es ++ mv := by
  have hz1 : (splice cur ((i + 1) * 6) mv).size = cur.size := splice_size (by omega)
  have e1 : (splice cur ((i + 1) * 6) mv).toList.take ((n + 1) * 6) = cur.toList.take ((i + 1) * 6) ++ mv := by rw [← hm]; exact splice_take_end (by omega)
  have hp : (i + 1) * 6 ≤ cur.size := by omega
  have e2 : (splice cur ((i + 1) * 6) mv).toList.take (i * 6) = cur.toList.take (i * 6) := by
    have := congrArg (List.take (i * 6)) e1
    rw [List.take_take, Nat.min_eq_left (by omega), List.take_append_of_le_length (by simp only [List.length_take, Array.length_toList]; omega), List.take_take, Nat.min_eq_left (by omega)] at this
    exact this
  have e3 : ((splice cur ((i + 1) * 6) mv).toList.drop ((i + 1) * 6)).take ((n + 1) * 6 - (i + 1) * 6) = mv := by
    rw [← List.drop_take, e1]
    have : (cur.toList.take ((i + 1) * 6)).length = (i + 1) * 6 := by simp only [List.length_take, Array.length_toList]; omega
    exact List.drop_left' this
  have hl2 : (cur.toList.take (i * 6)).length = i * 6 := by simp only [List.length_take, Array.length_toList]; omega
  have e4 : (splice (splice cur ((i + 1) * 6) mv) (i * 6) es).toList = (cur.toList.take (i * 6) ++ es) ++ (splice cur ((i + 1) * 6) mv).toList.drop ((i + 1) * 6) := by
    conv => lhs; unfold splice
    rw [show i * 6 + es.length = (i + 1) * 6 by omega]
    exact congrArg (fun x => x ++ es ++ _) e2
  have hl : (cur.toList.take (i * 6) ++ es).length = (i + 1) * 6 := by rw [List.length_append, hl2, he]; omega
  rw [e4, List.take_append, List.take_of_length_le (by omega), hl, e3]
set_option maxHeartbeats 8000000 in
set_option maxRecDepth 1000000 in
/-- There is room, and something behind. -/
theorem nd_shift (g n cap i gv cv : Nat) (cur curv : Array Value) (w : World) (hg : w.heap[g]? = some (.cells cur 53 (0, 0))) (hgv : w.heap[gv]? = some (.cells curv 53 (0, 0))) (hne : gv ≠ g) (hi : i < n) (hroom : n + 1 ≤ cap) (hm : cap ≤ maxLen) (hs : cur.size = cap * 6) (hsv : 6 ≤ curv.size)
    (h1 : ∀ u ∈ cur.toList.take (n * 6), u.oneCell' = true) (h1v : ∀ u ∈ curv.toList.take 6, u.oneCell' = true) :
    Calls Try.prog 86 #[.slice (some ⟨g, 0, none⟩) n cap, .int .i64 i, .slice (some ⟨gv, 0, none⟩) 1 cv] w fun e w' => e = .returned (.slice (some ⟨g, 0, none⟩) (n + 1) cap) ∧
      ∃ cur', Turn w w' g 53 cur' ∧ cur'.size = cur.size ∧ cur'.toList.take ((n + 1) * 6) = cur.toList.take (i * 6) ++ curv.toList.take 6 ++ (cur.toList.take (n * 6)).drop (i * 6) := by
  obtain ⟨inf, hinf, hsz⟩ := ndinfo
  have hc63 : cap ≤ 9223372036854775807 := by unfold maxLen at hm; omega
  obtain ⟨mv, hmv⟩ : ∃ mv, mv = (cur.toList.take (n * 6)).drop (i * 6) := ⟨_, rfl⟩
  have hml : mv.length = (n - i) * 6 := by rw [hmv]; simp only [List.length_drop, List.length_take, Array.length_toList]; omega
  obtain ⟨es, hes⟩ : ∃ es, es = curv.toList.take 6 := ⟨_, rfl⟩
  have hel : es.length = 6 := by rw [hes]; simp only [List.length_take, Array.length_toList]; omega
  have hov : ∀ lb cb, (callFunc 106 #[.slice (some ⟨gv, 0, none⟩) 1 cv, .slice (some ⟨g, (i + 1) * 6, none⟩) lb cb]).run Try.prog w = .ok (.value (.bool false)) w := fun lb cb =>
    overlap_no w gv g ((i + 1) * 6) 1 cv lb cb curv cur _ _ hne hgv hg (by omega)
  have mixed : Try.prog.follows Departure.mixedOrders = true := by kernel_rfl
  have hw1 : IntKind.i64.wrap ((i : Int) + (1 : Int)) = (i : Int) + (1 : Int) := by rw [IntKind.wrap_i64]; omega
  have hb1 : (0 : Int) ≤ (i : Int) + (1 : Int) := by omega
  have hin : i ≤ n := by omega
  have htn : ((i : Int) + (1 : Int)).toNat = i + 1 := by omega
  have hb2 : ¬ (cap = i + 1) := by omega
  have hb3 : (i : Int) ≤ (n : Int) + (1 : Int) := by omega
  have hb4 : ¬ (cap = i) := by omega
  have hz2 : ¬ ((i : Int) = (n : Int)) := by omega
  have hcp1 : ∀ ty dc sc, (Builtin.copy_ #[22, 22] ty #[.slice (some ⟨g, (i + 1) * 6, none⟩) (n - i) dc, .slice (some ⟨g, i * 6, none⟩) (n + 1 - i) sc]).run Try.prog w.drew = .ok (goInt (Nat.min (n + 1 - i) (n - i))) (w.drew.setCells g ((i + 1) * 6) mv) := fun ty dc sc =>
    run_copy_z w.drew _ _ ty _ inf g ((i + 1) * 6) _ dc ⟨g, i * 6, none⟩ _ sc mv Try.underlying22 hinf (by rw [hml, hsz]; congr 1; simp only [Nat.min_def]; split <;> omega)
      (fun j v hj => by
        have ht := (List.getElem?_eq_some_iff.1 hj).1
        rw [hml] at ht
        rw [hmv, List.getElem?_drop, List.getElem?_take, if_pos (by omega), Array.getElem?_toList, Array.getElem?_eq_getElem (by omega)] at hj
        injection hj with hj
        rw [Addr.add_lit, ← hj]
        exact cell_of (w := w) hg _)
      (fun j hj => by rw [hml] at hj; have : w.drew.cell? ⟨g, (i + 1) * 6 + j, none⟩ = some cur[(i + 1) * 6 + j] := cell_of (w := w) hg (by omega); rw [this]; rfl)
      (fun j hj => frozen_of (w := w) hg _) (fun v hv => h1 v (by rw [hmv] at hv; exact List.mem_of_mem_drop hv))
  obtain ⟨W1, hW1⟩ : ∃ W1, W1 = w.drew.setCells g ((i + 1) * 6) mv := ⟨_, rfl⟩
  have hG1 : W1.heap[g]? = some (.cells (splice cur ((i + 1) * 6) mv) 53 (0, 0)) := by rw [hW1]; exact heap_setCells g mv _ w.drew cur hg (by omega)
  have hz1 := splice_size (cur := cur) (o := (i + 1) * 6) (vs := mv) (by omega)
  have hgv1 : W1.heap[gv]? = some (.cells curv 53 (0, 0)) := by rw [hW1, heap_setCells_ne g _ _ _ gv hne]; exact hgv
  have hmin : Nat.min 1 (n + 1 - i) = 1 := by simp only [Nat.min_def]; split <;> omega
  have hcp2 : ∀ (W : World), (∀ x, W.cell? x = W1.cell? x) → (∀ x, W.frozen? x = W1.frozen? x) → ∀ ty dc, (Builtin.copy_ #[22, 22] ty #[.slice (some ⟨g, i * 6, none⟩) (n + 1 - i) dc, .slice (some ⟨gv, 0, none⟩) 1 cv]).run Try.prog W = .ok (goInt (Nat.min 1 (n + 1 - i))) (W.setCells g (i * 6) es) := fun W hWc hWf ty dc =>
    run_copy_z W _ _ ty _ inf g (i * 6) _ dc ⟨gv, 0, none⟩ 1 cv es Try.underlying22 hinf (by rw [hel, hsz, hmin])
      (fun j v hj => by
        have ht := (List.getElem?_eq_some_iff.1 hj).1
        rw [hel] at ht
        rw [hes, List.getElem?_take, if_pos ht, Array.getElem?_toList, Array.getElem?_eq_getElem (by omega)] at hj
        injection hj with hj
        rw [Addr.add_lit, hWc, ← hj, Nat.zero_add]
        exact cell_of hgv1 _)
      (fun j hj => by rw [hel] at hj; rw [hWc, cell_of hG1 (by rw [hz1]; omega)]; rfl)
      (fun j hj => by rw [hWf]; exact frozen_of hG1 _) (fun v hv => h1v v (by rw [hes] at hv; exact hv))
  rw [← hW1] at hcp1
  have hW : Hid (W1 = w.drew.setCells g ((i + 1) * 6) mv) := hW1
  have hG : Hid (W1.heap[g]? = some (.cells (splice cur ((i + 1) * 6) mv) 53 (0, 0))) := hG1
  have HM : Hid (mv = (cur.toList.take (n * 6)).drop (i * 6)) := hmv
  have HE : Hid (es = curv.toList.take 6) := hes
  clear hW1 hG1 hg hgv hgv1 hmv hes h1 h1v hmin
  go_enter Try.func86, Try.ntmps86
  go_wp2_with (simp only [hov])
  go_region_law_o (refine step_copy_run rfl _ _ 22 22 rfl _ _ (by simp [Act.eval, Act.put]) (by simp [Act.eval, Act.put]) (hcp1 _ _ _) ?_)
  go_wp2_with (at_builtin; refine wpList_copy_run _ rfl _ _ 22 22 rfl _ _ rfl rfl (hcp2 _ (fun _ => rfl) (fun _ => rfl) _ _) ?_)
  go_ret
  have hb : i * 6 + es.length ≤ (splice cur ((i + 1) * 6) mv).size := by rw [hel, hz1]; omega
  obtain ⟨r1, r2, r3, r4⟩ := setCells_rest g es (i * 6) W1
  obtain ⟨q1, q2, q3, q4⟩ := setCells_rest g mv ((i + 1) * 6) w.drew
  rw [← hW.out] at q1 q2 q3 q4
  refine ⟨rfl, _, ⟨heap_setCells g _ _ W1 _ hG.out hb, r1.trans q1, r2.trans q2, r3.trans q3, by rw [r4, q4]; exact Nat.le_refl _, fun k _ hk => ?_⟩, (splice_size hb).trans hz1, ?_⟩
  · rw [heap_setCells_ne g _ _ _ k hk, hW.out, heap_setCells_ne g _ _ _ k hk]; rfl
  · rw [← HM.out, ← HE.out]
    exact shift_cells (by omega) hel (by omega) (by rw [hml]; omega)
end Go.Proofs.Ytmkjjopflncedaa.AX
end
section
namespace Go.Proofs.Ytmkjjopflncedaa.AX
open Go Go.Shelf Go.RowKit Go.Lib
set_option linter.unusedVariables false
set_option linter.unusedSimpArgs false
theorem setCells_heap (g : Nat) : ∀ (vs : List Value) (o : Nat) (w w' : World), w.heap = w'.heap → (w.setCells g o vs).heap = (w'.setCells g o vs).heap
  | [], _, _, _, h => h
  | v :: vs, o, w, w', h => by
    rw [World.setCells, World.setCells]
    exact setCells_heap g vs (o + 1) _ _ (by simp only [World.setCell, h])
theorem ndinfo' : ∃ i z, Try.prog.info? 53 = some i ∧ i.size = 6 ∧ i.zero = some z ∧ z.cells.size = 6 ∧ i.bytes = 96 := by
  obtain ⟨_, i, z, h1, h2, h3, h4, _⟩ := ty_ok (e := 53) (t := .node) (by kernel_rfl)
  have hb : bytesT Try.prog 53 = some 96 := by kernel_rfl
  unfold bytesT at hb
  rw [h1] at hb
  exact ⟨i, z, h1, h2, h3, h4, by injection hb⟩
set_option maxHeartbeats 8000000 in
set_option maxRecDepth 1000000 in
/-- At the end. -/
theorem nd_end (v : Value) (n gv cv : Nat) (xs : List Value) (curv : Array Value) (w : World) (hown : w.ownsRow 0 53 6 v n xs) (hgv : w.heap[gv]? = some (.cells curv 53 (0, 0))) (hsv : 6 ≤ curv.size) (hb : (n + 1) * 96 ≤ maxSl)
    (h1v : ∀ u ∈ curv.toList.take 6, u.oneCell' = true) :
    Calls Try.prog 86 #[v, .int .i64 n, .slice (some ⟨gv, 0, none⟩) 1 cv] w fun e w' => ∃ v', e = .returned v' ∧ w'.ownsRow 0 53 6 v' (n + 1) (xs ++ curv.toList.take 6) ∧ w.grownBy w' v.ownBlock ∧ (∀ k, v'.ownBlock = some k → v.ownBlock = some k ∨ w.heap.size ≤ k) := by
  obtain ⟨inf, z, hinf, hsz, hz, hzs, hby⟩ := ndinfo'
  obtain ⟨es, hes⟩ : ∃ es, es = curv.toList.take 6 := ⟨_, rfl⟩
  have hel : es.length = 1 * 6 := by rw [hes]; simp only [List.length_take, Array.length_toList]; omega
  have hsrc : Hid (∀ j u, es[j]? = some u → w.cell? ((⟨gv, 0, none⟩ : Addr).add j) = some u) := fun j u hj => by
    have ht := (List.getElem?_eq_some_iff.1 hj).1
    rw [hel] at ht
    rw [hes, List.getElem?_take, if_pos (by omega), Array.getElem?_toList, Array.getElem?_eq_getElem (by omega)] at hj
    injection hj with hj
    rw [Addr.add_lit, ← hj, Nat.zero_add]
    exact cell_of hgv _
  rw [← hes] at h1v ⊢
  have hml : maxSl = 140737488355328 := rfl
  have HO : Hid (w.ownsRow 0 53 6 v n xs) := hown
  have H1 : Hid (∀ u ∈ es, u.oneCell' = true) := h1v
  have h63 : n + 1 ≤ maxLen := by rw [hml] at hb; unfold maxLen; omega
  have hb' : (n + 1) * 96 ≤ 140737488355328 := hb
  clear hb h1v
  rcases hown.2 with ⟨rfl, rfl⟩ | ⟨g, cap, cur, rfl, _, hg, hn, hcm, hcs, htake⟩
  · clear hown hgv hes
    go_enter Try.func86, Try.ntmps86
    go_wp2_with (at_builtin; refine wpList_append_lies w rfl _ _ 22 rfl 0 53 inf z 6 96 Try.underlying22 hinf hz hsz hby hzs (by omega) _ 0 xs rfl HO.out ⟨gv, 0, none⟩ 1 cv es rfl hel hsrc.out H1.out (by omega) h63 hb' (Nat.zero_le _) _ rfl ?_; intro g cap w1 hw1 hgrow hat hlt)
    go_ret
    refine ⟨_, rfl, hw1, hgrow, fun k hk => ?_⟩
    injection (show some g = some k from hk) with hk
    subst hk
    rcases hat with h | h
    · exact .inl h
    · exact .inr (by rw [h]; exact Nat.le_refl _)
  · have hc63 : cap ≤ 9223372036854775807 := by unfold maxLen at hcm; omega
    clear hown hgv hes hg htake
    go_enter Try.func86, Try.ntmps86
    go_wp2_with (at_builtin; refine wpList_append_lies w rfl _ _ 22 rfl 0 53 inf z 6 96 Try.underlying22 hinf hz hsz hby hzs (by omega) _ n xs rfl HO.out ⟨gv, 0, none⟩ 1 cv es rfl hel hsrc.out H1.out (by omega) h63 hb' (Nat.zero_le _) _ rfl ?_; intro g' cap' w1 hw1 hgrow hat hlt)
    all_goals
      go_ret
      refine ⟨_, rfl, hw1, hgrow, fun k hk => ?_⟩
      injection (show some g' = some k from hk) with hk
      subst hk
      rcases hat with h | h
      · exact .inl h
      · exact .inr (by rw [h]; exact Nat.le_refl _)
set_option maxHeartbeats 8000000 in
set_option maxRecDepth 1000000 in
/-- No room, and something behind. -/
theorem nd_grow (g n cap i gv cv : Nat) (cur curv : Array Value) (w : World) (hg : w.heap[g]? = some (.cells cur 53 (0, 0))) (hgv : w.heap[gv]? = some (.cells curv 53 (0, 0))) (hi : i < n) (hnc : n ≤ cap) (hroom : cap < n + 1) (hs : cur.size = cap * 6) (hsv : 6 ≤ curv.size) (hbig : (n + 1) * 96 ≤ maxSl)
    (h1 : ∀ u ∈ cur.toList.take (n * 6), u.oneCell' = true) (h1v : ∀ u ∈ curv.toList.take 6, u.oneCell' = true) :
    Calls Try.prog 86 #[.slice (some ⟨g, 0, none⟩) n cap, .int .i64 i, .slice (some ⟨gv, 0, none⟩) 1 cv] w fun e w' => ∃ G cur', e = .returned (.slice (some ⟨w.heap.size, 0, none⟩) (n + 1) G) ∧ n + 1 ≤ G ∧ G ≤ maxLen ∧ cur'.size = G * 6 ∧
      Turn w w' w.heap.size 53 cur' ∧ cur'.toList.take ((n + 1) * 6) = cur.toList.take (i * 6) ++ curv.toList.take 6 ++ (cur.toList.take (n * 6)).drop (i * 6) := by
  obtain ⟨inf, z, hinf, hsz, hz, hzs, hby⟩ := ndinfo'
  have hbg : (n + 1) * 96 ≤ 140737488355328 := hbig
  have hz2 : ¬ ((i : Int) = (n : Int)) := by omega
  have hz3 : (cap : Int) < (n : Int) + (1 : Int) := by omega
  have hgw : g < w.heap.size := (Array.getElem?_eq_some_iff.1 hg).1
  have hvw : gv < w.heap.size := (Array.getElem?_eq_some_iff.1 hgv).1
  have hkk : (n : Int) + (1 : Int) - (i : Int) = ((n + 1 - i : Nat) : Int) := by omega
  have hik : i + (n + 1 - i) = n + 1 := by omega
  have hold : (Builtin.firstCells inf.size i (.slice (some ⟨g, 0, none⟩) i cap)).run Try.prog w.drew = .ok (cur.toList.take (i * 6)).toArray w.drew := by
    rw [hsz]
    refine run_firstCells_some w.drew 6 i ⟨g, 0, none⟩ i cap (cur.toList.take (i * 6)) (by rw [List.length_take, Array.length_toList]; omega) (fun j v hj => ?_)
    rw [Addr.add_lit, Nat.zero_add]
    rw [List.getElem?_take] at hj
    split at hj
    · rw [Array.getElem?_toList, Array.getElem?_eq_getElem (by omega)] at hj
      injection hj with hj
      rw [← hj]; exact cell_of (w := w) hg _
    · cases hj
  have hrz : ∀ ty, (Builtin.append_ #[22, 3] ty #[.slice (some ⟨g, 0, none⟩) i cap, .int .i64 ((n : Int) + (1 : Int) - (i : Int))]).run Try.prog w =
      .ok (.slice (some ⟨w.heap.size, 0, none⟩) (n + 1) (grownCap w (n + 1) cap 53)) (w.drew.alloc (.cells ((cur.toList.take (i * 6)).toArray ++ Builtin.zeroCells z.cells (n + 1 - i) ++ Builtin.zeroCells z.cells (grownCap w (n + 1) cap 53 - (n + 1))) 53)) := fun ty => by
    have h := Lib.run_append_grow_zeros w 22 3 ty 53 inf z .i64 .i64 Try.underlying22 Try.underlying3 hinf hz (some ⟨g, 0, none⟩) i cap (cur.toList.take (i * 6)) hold (n + 1 - i) (by omega) (by omega) (by omega) (by omega) (by rw [hby]; omega) (by rw [hby, hik]; exact growslice_fits hroom hbg)
    rw [hik] at h
    rw [hkk]
    exact h
  obtain ⟨G, hG⟩ : ∃ G, G = grownCap w (n + 1) cap 53 := ⟨_, rfl⟩
  obtain ⟨ROW, hROW⟩ : ∃ ROW : Array Value, ROW = (cur.toList.take (i * 6)).toArray ++ Builtin.zeroCells z.cells (n + 1 - i) ++ Builtin.zeroCells z.cells (G - (n + 1)) := ⟨_, rfl⟩
  rw [← hG] at hrz
  rw [← hROW] at hrz
  have hGn : n + 1 ≤ G := by rw [hG]; exact grownCap_ge w _ _ _
  have hGm : G ≤ maxLen := by rw [hG]; exact grownCap_le_maxLen w (n + 1) cap _ (by unfold maxLen; omega)
  have hRl : ROW.size = G * 6 := by
    rw [hROW]
    simp only [Array.size_append, List.size_toArray, List.length_take, Array.length_toList, size_zeroCells, hzs]
    omega
  have hRt : ROW.toList.take (i * 6) = cur.toList.take (i * 6) := by
    rw [hROW]
    simp only [Array.toList_append, List.append_assoc]
    exact List.take_left' (by rw [List.length_take, Array.length_toList]; omega)
  have hG63 : G ≤ 9223372036854775807 := by unfold maxLen at hGm; omega
  obtain ⟨W1, hW1⟩ : ∃ W1, W1 = w.drew.alloc (.cells ROW 53) := ⟨_, rfl⟩
  rw [← hW1] at hrz
  have hN1 : W1.heap[w.heap.size]? = some (.cells ROW 53 (0, 0)) := by rw [hW1]; exact heap_alloc_new w.drew _
  have hO1 : ∀ k, k < w.heap.size → W1.heap[k]? = w.heap[k]? := fun k hk => by rw [hW1]; exact Go.heap_alloc_old w.drew _ (r := k) hk
  obtain ⟨mv, hmv⟩ : ∃ mv, mv = (cur.toList.take (n * 6)).drop (i * 6) := ⟨_, rfl⟩
  have hml : mv.length = (n - i) * 6 := by rw [hmv]; simp only [List.length_drop, List.length_take, Array.length_toList]; omega
  obtain ⟨es, hes⟩ : ∃ es, es = curv.toList.take 6 := ⟨_, rfl⟩
  have hel : es.length = 6 := by rw [hes]; simp only [List.length_take, Array.length_toList]; omega
  have hmin : Nat.min 1 (n + 1 - i) = 1 := by simp only [Nat.min_def]; split <;> omega
  have hcpA : ∀ (W : World), (∀ x, W.cell? x = W1.cell? x) → (∀ x, W.frozen? x = W1.frozen? x) → ∀ ty dc, (Builtin.copy_ #[22, 22] ty #[.slice (some ⟨w.heap.size, i * 6, none⟩) (n + 1 - i) dc, .slice (some ⟨gv, 0, none⟩) 1 cv]).run Try.prog W = .ok (goInt (Nat.min 1 (n + 1 - i))) (W.setCells w.heap.size (i * 6) es) := fun W hWc hWf ty dc =>
    run_copy_z W _ _ ty _ inf w.heap.size (i * 6) _ dc ⟨gv, 0, none⟩ 1 cv es Try.underlying22 hinf (by rw [hel, hsz, hmin])
      (fun j v hj => by
        have ht := (List.getElem?_eq_some_iff.1 hj).1
        rw [hel] at ht
        rw [hes, List.getElem?_take, if_pos ht, Array.getElem?_toList, Array.getElem?_eq_getElem (by omega)] at hj
        injection hj with hj
        rw [Addr.add_lit, hWc, ← hj, Nat.zero_add]
        exact cell_of ((hO1 gv hvw).trans hgv) _)
      (fun j hj => by rw [hel] at hj; rw [hWc, cell_of hN1 (by omega)]; rfl)
      (fun j hj => by rw [hWf]; exact frozen_of hN1 _) (fun v hv => h1v v (by rw [hes] at hv; exact hv))
  obtain ⟨W2, hW2⟩ : ∃ W2, W2 = W1.setCells w.heap.size (i * 6) es := ⟨_, rfl⟩
  have hN2 : W2.heap[w.heap.size]? = some (.cells (splice ROW (i * 6) es) 53 (0, 0)) := by rw [hW2]; exact heap_setCells _ es _ W1 ROW hN1 (by omega)
  have hO2 : ∀ k, k < w.heap.size → W2.heap[k]? = w.heap[k]? := fun k hk => by rw [hW2, heap_setCells_ne _ _ _ _ k (by omega)]; exact hO1 k hk
  have hz4 : (splice ROW (i * 6) es).size = G * 6 := (splice_size (by omega)).trans hRl
  have hcpB : ∀ (W : World), (∀ x, W.cell? x = W2.cell? x) → (∀ x, W.frozen? x = W2.frozen? x) → ∀ ty dc sc, (Builtin.copy_ #[22, 22] ty #[.slice (some ⟨w.heap.size, (i + 1) * 6, none⟩) (n - i) dc, .slice (some ⟨g, i * 6, none⟩) (n - i) sc]).run Try.prog W = .ok (goInt (Nat.min (n - i) (n - i))) (W.setCells w.heap.size ((i + 1) * 6) mv) := fun W hWc hWf ty dc sc =>
    run_copy_z W _ _ ty _ inf w.heap.size ((i + 1) * 6) _ dc ⟨g, i * 6, none⟩ _ sc mv Try.underlying22 hinf (by rw [hml, hsz]; congr 1; exact (Nat.min_self _).symm)
      (fun j v hj => by
        have ht := (List.getElem?_eq_some_iff.1 hj).1
        rw [hml] at ht
        rw [hmv, List.getElem?_drop, List.getElem?_take, if_pos (by omega), Array.getElem?_toList, Array.getElem?_eq_getElem (by omega)] at hj
        injection hj with hj
        rw [Addr.add_lit, hWc, ← hj]
        exact cell_of ((hO2 g hgw).trans hg) _)
      (fun j hj => by rw [hml] at hj; rw [hWc, cell_of hN2 (by omega)]; rfl)
      (fun j hj => by rw [hWf]; exact frozen_of hN2 _) (fun v hv => h1 v (by rw [hmv] at hv; exact List.mem_of_mem_drop hv))
  have hfin : Hid (∀ W : World, W.heap = (W2.setCells w.heap.size ((i + 1) * 6) mv).heap → W.os = w.os → W.tape = w.tape → W.output = w.output → ∃ cur', cur'.size = G * 6 ∧ Turn w W w.heap.size 53 cur' ∧ cur'.toList.take ((n + 1) * 6) = cur.toList.take (i * 6) ++ es ++ mv) := fun W hW h1 h2 h3 => by
    refine ⟨splice (splice ROW (i * 6) es) ((i + 1) * 6) mv, (splice_size (by omega)).trans hz4, ⟨?_, h1, h2, h3, ?_, fun k hk _ => ?_⟩, ?_⟩
    · rw [hW]; exact heap_setCells _ mv _ W2 _ hN2 (by omega)
    · rw [hW, (setCells_rest _ _ _ _).2.2.2, hW2, (setCells_rest _ _ _ _).2.2.2, hW1]
      simp
    · rw [hW, heap_setCells_ne _ _ _ _ k (by omega)]; exact hO2 k hk
    · have e : (n + 1) * 6 = (i + 1) * 6 + mv.length := by rw [hml]; omega
      rw [e, splice_take_end (by omega)]
      congr 1
      have e' : (i + 1) * 6 = i * 6 + es.length := by rw [hel]; omega
      rw [e', splice_take_end (by omega), hRt]
  have hGi : ¬ (G = i) := by omega
  have hGim : ¬ (G = i + 1) := by omega
  have hci : ¬ (cap = i) := by omega
  have hw1 : IntKind.i64.wrap ((i : Int) + (1 : Int)) = (i : Int) + (1 : Int) := by rw [IntKind.wrap_i64]; omega
  have hb1 : (0 : Int) ≤ (i : Int) + (1 : Int) := by omega
  have hin : i ≤ n := by omega
  have htn : ((i : Int) + (1 : Int)).toNat = i + 1 := by omega
  have hb3 : (i : Int) ≤ (n : Int) := by omega
  have hGn' := hGn
  have hGm' : Hid (G ≤ maxLen) := hGm
  have mixed : Try.prog.follows Departure.mixedOrders = true := by kernel_rfl
  rw [← hmv, ← hes]
  subst hW2
  subst hW1
  have hE1 : ∀ x, ((w.alloc (.cells ROW 53)).drew).cell? x = (w.drew.alloc (.cells ROW 53)).cell? x := fun x => rfl
  have hE2 : ∀ x, ((w.alloc (.cells ROW 53)).drew).frozen? x = (w.drew.alloc (.cells ROW 53)).frozen? x := fun x => rfl
  have hF1 : ∀ x, (((w.alloc (.cells ROW 53)).drew.setCells w.heap.size (i * 6) es).drew).cell? x = ((w.drew.alloc (.cells ROW 53)).setCells w.heap.size (i * 6) es).cell? x := fun x => rfl
  have hF2 : ∀ x, (((w.alloc (.cells ROW 53)).drew.setCells w.heap.size (i * 6) es).drew).frozen? x = ((w.drew.alloc (.cells ROW 53)).setCells w.heap.size (i * 6) es).frozen? x := fun x => rfl
  clear hkk hik hold hROW hG hRl hRt hN1 hO1 hN2 hO2 hg hgv h1 h1v hmv hes hmin hGm hz4
  go_enter Try.func86, Try.ntmps86
  go_wp2_with (first
    | (at_builtin; refine Lib.wpList_append_run _ rfl _ _ _ _ rfl _ _ rfl rfl _ _ (hrz _) ?_)
    | (at_builtin; refine wpList_copy_run _ rfl _ _ 22 22 rfl _ _ rfl rfl (hcpA _ hE1 hE2 _ _) ?_))
  go_region_law_o (refine step_copy_run rfl _ _ 22 22 rfl (.slice (some ⟨w.heap.size, (i + 1) * 6, none⟩) (n - i) (G - (i + 1))) (.slice (some ⟨g, i * 6, none⟩) (n - i) (cap - i)) (by simp [Act.eval, Act.put]) (by simp [Act.eval, Act.put]) (hcpB _ hF1 hF2 3 (G - (i + 1)) (cap - i)) ?_)
  go_wp2
  go_ret
  obtain ⟨cur', h1, h2, h3⟩ := hfin.out ((((w.alloc (.cells ROW 53)).drew.setCells w.heap.size (i * 6) es).drew).setCells w.heap.size ((i + 1) * 6) mv) (setCells_heap _ _ _ _ _ (setCells_heap _ _ _ _ _ rfl)) ((setCells_rest _ _ _ _).1.trans (setCells_rest _ _ _ _).1) ((setCells_rest _ _ _ _).2.1.trans (setCells_rest _ _ _ _).2.1) ((setCells_rest _ _ _ _).2.2.1.trans (setCells_rest _ _ _ _).2.2.1)
  exact ⟨G, cur', rfl, hGn', hGm'.out, h1, h2, h3⟩
end Go.Proofs.Ytmkjjopflncedaa.AX
end
section
namespace Go.Proofs.Ytmkjjopflncedaa.AX
open Go Go.RowKit
theorem Turn.grown {w w' : World} {g : Nat} {e : TypeId} {cur : Array Value} (h : Turn w w' g e cur) : w.grownBy w' (some g) := ⟨h.os, h.tape, h.output, h.size, fun k hk hn => h.block k hk fun e => hn (by rw [e])⟩
theorem nd_insert (v : Value) (n i gv cv : Nat) (xs : List Value) (curv : Array Value) (w : World) (hown : w.ownsRow 0 53 6 v n xs) (hgv : w.heap[gv]? = some (.cells curv 53 (0, 0))) (hne : v.ownBlock ≠ some gv) (hsv : 6 ≤ curv.size) (hi : i ≤ n) (hb : (n + 1) * 96 ≤ maxSl)
    (h1 : ∀ u ∈ xs, u.oneCell' = true) (h1v : ∀ u ∈ curv.toList.take 6, u.oneCell' = true) :
    Calls Try.prog 86 #[v, .int .i64 i, .slice (some ⟨gv, 0, none⟩) 1 cv] w fun e w' => ∃ v', e = .returned v' ∧ w'.ownsRow 0 53 6 v' (n + 1) (xs.take (i * 6) ++ curv.toList.take 6 ++ xs.drop (i * 6)) ∧ w.grownBy w' v.ownBlock ∧ (∀ k, v'.ownBlock = some k → v.ownBlock = some k ∨ w.heap.size ≤ k) := by
  by_cases he : i = n
  · subst he
    have := nd_end v i gv cv xs curv w hown hgv hsv hb h1v
    have hl := hown.1
    rw [List.take_of_length_le (by omega), List.drop_of_length_le (by omega), List.append_nil]
    exact this
  · rcases hown.2 with ⟨_, rfl⟩ | ⟨g, cap, cur, rfl, _, hg, hn, hcm, hcs, htake⟩
    · omega
    have hx1 : ∀ u ∈ cur.toList.take (n * 6), u.oneCell' = true := by rw [htake]; exact h1
    have et : cur.toList.take (i * 6) = xs.take (i * 6) := by rw [← htake, List.take_take, Nat.min_eq_left (by omega)]
    have hlx : (xs.take (i * 6) ++ curv.toList.take 6 ++ xs.drop (i * 6)).length = (n + 1) * 6 := by
      have := hown.1
      simp only [List.length_append, List.length_take, List.length_drop, Array.length_toList]; omega
    by_cases hr : n + 1 ≤ cap
    · refine (nd_shift g n cap i gv cv cur curv w hg hgv (fun e => hne (by rw [e]; rfl)) (by omega) hr hcm hcs hsv hx1 h1v).mono ?_
      rintro e w' ⟨rfl, cur', hT, hz, ht⟩
      rw [et, htake] at ht
      exact ⟨_, rfl, ⟨hlx, .inr ⟨g, cap, cur', rfl, Nat.zero_le _, hT.at_, hr, hcm, hz.trans hcs, ht⟩⟩, hT.grown, fun k hk => .inl hk⟩
    · refine (nd_grow g n cap i gv cv cur curv w hg hgv (by omega) hn (by omega) hcs hsv hb hx1 h1v).mono ?_
      rintro e w' ⟨G, cur', rfl, hG, hGm, hz, hT, ht⟩
      rw [et, htake] at ht
      refine ⟨_, rfl, ⟨hlx, .inr ⟨w.heap.size, G, cur', rfl, Nat.zero_le _, hT.at_, hG, hGm, hz, ht⟩⟩, ⟨hT.os, hT.tape, hT.output, hT.size, fun k hk _ => hT.block k hk (by omega)⟩, fun k hk => .inr ?_⟩
      injection (show some w.heap.size = some k from hk) with hk
      omega
section
variable {tid : Ty → TypeId} {w w' : World} {F : Nat → Prop} {I I' : Im}
/-- A row's slice becomes another one: the same block, or a new one. -/
theorem Rel.renew {w0 : World} {E : Nat → Prop} {s : St} {a : Act} (hR : Rel tid w0 E F I s a w) {id m : Nat} {t : Ty} {v v' : Value} {xs ys : List (den t)} {us : List Value} (hb : s.hp.getD id none = some (.rowb m t xs)) (hI : I id = some (.row m t v))
    (hown : w'.ownsRow 0 (tid t) (width t) v' ys.length us) (hgrow : w.grownBy w' v.ownBlock) (hat : ∀ k, v'.ownBlock = some k → v.ownBlock = some k ∨ w.heap.size ≤ k) (hm : ys.length ≤ maxSl) (hall : All2 (LeafR w (Own F I) I) us (cellsOf t ys)) :
    Rel tid w0 E F (iup I id (.row (m + 1) t v')) ⟨s.tm, s.hp.set id (some (.rowb (m + 1) t ys))⟩ a w' ∧ LeafR w' (Own F (iup I id (.row (m + 1) t v'))) (iup I id (.row (m + 1) t v')) v' (.own id (m + 1)) := by
  have hid : id < s.hp.length := by
    rcases Nat.lt_or_ge id s.hp.length with h' | h'
    · exact h'
    · rw [List.getD_eq_getElem?_getD, List.getElem?_eq_none h'] at hb; cases hb
  have hone : v'.oneCell' = true := by
    rcases hown.2 with ⟨rfl, _⟩ | ⟨_, _, _, rfl, _⟩ <;> rfl
  refine ⟨hR.upd hid (fun l0 h0 => ?_) (fun k hk hn => hgrow.block k hk fun e => hn _ hI e.symm) (fun k hk => ⟨?_, (hown.lt k hk).2⟩) hgrow.os hgrow.tape hgrow.output hgrow.size fun hmono => ⟨v', us, rfl, hm, hown, hall.mono fun v x h => hmono v x h⟩, own_new (iup_same _ _ _) hone⟩
  · rw [hI] at h0; injection h0 with h0; subst h0
    exact .inr (.inr ⟨m, m + 1, t, _, _, rfl, rfl, Nat.lt_succ_self m⟩)
  · rcases hat k hk with h | h
    · exact .inl ⟨_, hI, h⟩
    · exact .inr h
end
def conIns : Con := fun args hp => match args, hp with
  | [.own 0 0, .int .i64 i, .own 1 0], [.rowb 0 .node xs, .rowb 0 .node [y]] => some { pre := some (0 ≤ i ∧ i ≤ xs.length ∧ (xs.length + 1) * 96 ≤ maxSl), res := .own 0 1, hp := [.rowb 1 .node (xs.take i.toNat ++ [y] ++ xs.drop i.toNat), .rowb 0 .node [y]] }
  | _, _ => none
theorem ins_holds : Holds 86 conIns := by
  intro args hp ans hc
  unfold conIns at hc
  split at hc
  case h_2 => cases hc
  rename_i i xs y
  injection hc with hc
  subst hc
  intro F I w vals hH hv hpre
  obtain ⟨h0, h1, h2⟩ := hpre _ rfl
  cases hv with | cons a0 hv => cases hv with | cons a1 hv => cases hv with | cons a2 hv =>
  cases hv
  cases (show LeafR _ _ _ _ (.int .i64 i) from a1)
  obtain ⟨in_, rfl⟩ := Int.eq_ofNat_of_zero_le h0
  obtain ⟨l0, hl0, v, vs, rfl, hmx, hown, hall⟩ := hH.hp 0
  obtain ⟨l1, hl1, vv, vvs, rfl, _, hownv, hallv⟩ := hH.hp 1
  have hv0 := ((ValR.own (show ValR w (Own F I) I _ (.own 0 0) from .of1 a0)).2.2 _ _ _ hl0).2 rfl
  have hv2 := ((ValR.own (show ValR w (Own F I) I _ (.own 1 0) from .of1 a2)).2.2 _ _ _ hl1).2 rfl
  rw [hv0, hv2]
  rcases hownv.2 with ⟨_, hz⟩ | ⟨gv, cv, curv, rfl, _, hgv, hnv, _, hcsv, htakev⟩
  · cases hz
  have hsv : 6 ≤ curv.size := by rw [hcsv]; have : 1 ≤ cv := hnv; show 6 ≤ cv * 6; omega
  have one : ∀ {us : List Value} {l : List AV}, All2 (LeafR w (Own F I) I) us l → ∀ u ∈ us, u.oneCell' = true := fun h u hu => by
    obtain ⟨k, hk⟩ := List.getElem?_of_mem hu
    obtain ⟨x, _, hx⟩ := h.get' hk
    exact hx.one
  have hne : v.ownBlock ≠ some gv := fun e => by
    have := hH.inj 0 1 _ _ gv hl0 hl1 e rfl
    cases this
  have htv : curv.toList.take 6 = vvs := htakev
  have hxl : in_ ≤ xs.length := by omega
  refine (nd_insert v xs.length in_ gv cv vs curv w hown hgv hne hsv hxl h2 (one hall) (by rw [htv]; exact one hallv)).mono ?_
  rintro e w' ⟨v', rfl, ho, hgrow, hat⟩
  simp only [Int.toNat_natCast]
  have hlen : (xs.take in_ ++ [y] ++ xs.drop in_).length = xs.length + 1 := by simp only [List.length_append, List.length_take, List.length_drop, List.length_cons, List.length_nil]; omega
  obtain ⟨hR', hl'⟩ := hH.toRel.renew (id := 0) (ys := xs.take in_ ++ [y] ++ xs.drop in_) (by rfl) hl0 (by rw [hlen]; exact ho) hgrow hat (by rw [hlen]; unfold maxSl at h2 ⊢; omega) (by
    rw [htv, cellsOf_append, cellsOf_append, cellsOf_take, cellsOf_drop]
    exact ((hall.take _).append hallv).append (hall.drop _))
  refine Rel.post (hp := [.rowb 0 .node xs, .rowb 0 .node [y]]) (ans := { res := .own 0 1, hp := [.rowb 1 .node (xs.take in_ ++ [y] ++ xs.drop in_), .rowb 0 .node [y]] }) hR' (.leaf hl') rfl fun i hi => ?_
  match i, hi with
  | 0, _ =>
    rw [hl0]
    exact ⟨fun b h => (nomatch h), fun b v h => (nomatch h), fun n t v h => ⟨_, _, _, iup_same _ _ _, fun h => (nomatch h)⟩⟩
  | 1, _ =>
    rw [hl1]
    exact ⟨fun b h => (nomatch h), fun b v h => (nomatch h), fun n t v h => ⟨_, _, _, (iup_ne _ _ (by decide)).trans hl1, fun h => (nomatch h)⟩⟩
  | i + 2, hi => exact absurd hi (by simp)
end Go.Proofs.Ytmkjjopflncedaa.AX
end
section
namespace Go.Proofs.Ytmkjjopflncedaa.AX
open Go Go.Shelf Go.RowKit Go.Lib
set_option linter.unusedVariables false
set_option linter.unusedSimpArgs false
theorem run_clear_0 {P : Program} (w : World) (t e ty : TypeId) (a : Option Addr) (c : Nat) (z : Value) (ht : P.underlying t = some (.slice e)) (hv : ∀ w, (zeroValue e).run P w = .ok z w) : (Builtin.clear_ #[t] ty #[.slice a 0 c]).run P w = .ok (.tuple #[]) w := by
  cases a <;> simp [Builtin.clear_, run_underlying ht, hv, Builtin.zeroCells, storeCells]
set_option maxHeartbeats 8000000 in
set_option maxRecDepth 1000000 in
theorem nd_repl (g n cap i gv cv : Nat) (cur curv : Array Value) (w : World) (hg : w.heap[g]? = some (.cells cur 53 (0, 0))) (hgv : w.heap[gv]? = some (.cells curv 53 (0, 0))) (hne : gv ≠ g) (hi : i < n) (hn : n ≤ cap) (hm : cap ≤ maxLen) (hs : cur.size = cap * 6) (hsv : 6 ≤ curv.size)
    (h1 : ∀ u ∈ cur.toList.take (n * 6), u.oneCell' = true) (h1v : ∀ u ∈ curv.toList.take 6, u.oneCell' = true) :
    Calls Try.prog 92 #[.slice (some ⟨g, 0, none⟩) n cap, .int .i64 i, .int .i64 ((i : Int) + 1), .slice (some ⟨gv, 0, none⟩) 1 cv] w fun e w' => e = .returned (.slice (some ⟨g, 0, none⟩) n cap) ∧
      ∃ cur', Turn w w' g 53 cur' ∧ cur'.size = cur.size ∧ cur'.toList.take (n * 6) = cur.toList.take (i * 6) ++ curv.toList.take 6 ++ (cur.toList.take (n * 6)).drop ((i + 1) * 6) := by
  obtain ⟨inf, hinf, hsz⟩ := ndinfo
  have hc63 : cap ≤ 9223372036854775807 := by unfold maxLen at hm; omega
  obtain ⟨es, hes⟩ : ∃ es, es = curv.toList.take 6 := ⟨_, rfl⟩
  have hel : es.length = 6 := by rw [hes]; simp only [List.length_take, Array.length_toList]; omega
  have mixed : Try.prog.follows Departure.mixedOrders = true := by kernel_rfl
  have hsrc : ∀ j v, es[j]? = some v → w.cell? ((⟨gv, 0, none⟩ : Addr).add j) = some v := fun j v hj => by
    have ht := (List.getElem?_eq_some_iff.1 hj).1
    rw [hel] at ht
    rw [hes, List.getElem?_take, if_pos ht, Array.getElem?_toList, Array.getElem?_eq_getElem (by omega)] at hj
    injection hj with hj
    rw [Addr.add_lit, ← hj, Nat.zero_add]
    exact cell_of hgv _
  have h1e : ∀ v ∈ es, v.oneCell' = true := fun v hv => h1v v (by rw [hes] at hv; exact hv)
  have hcell : ∀ j, j < es.length → (w.cell? ⟨g, i * 6 + j, none⟩).isSome = true := fun j hj => by rw [hel] at hj; rw [cell_of hg (by omega)]; rfl
  have hfro : ∀ j, j < es.length → w.frozen? ⟨g, i * 6 + j, none⟩ = false := fun j hj => frozen_of hg _
  have hb : i * 6 + es.length ≤ cur.size := by omega
  rw [← hes]
  have hfin : Hid (Turn w (w.setCells g (i * 6) es) g 53 (splice cur (i * 6) es)) := by
    obtain ⟨r1, r2, r3, r4⟩ := setCells_rest g es (i * 6) w
    exact (⟨heap_setCells g es _ w cur hg hb, r1, r2, r3, by rw [r4]; exact Nat.le_refl _, fun k _ hk => heap_setCells_ne g _ _ _ k hk⟩ : Turn w (w.setCells g (i * 6) es) g 53 (splice cur (i * 6) es))
  obtain ⟨mv, hmv⟩ : ∃ mv, mv = (cur.toList.take (n * 6)).drop ((i + 1) * 6) := ⟨_, rfl⟩
  have hml : mv.length = (n - (i + 1)) * 6 := by rw [hmv]; simp only [List.length_drop, List.length_take, Array.length_toList]; omega
  rw [← hmv]
  have hcells1 : Hid (mv = [] → (splice cur (i * 6) es).toList.take (n * 6) = cur.toList.take (i * 6) ++ es ++ mv) := fun h => by
    have : n = i + 1 := by rw [h] at hml; simp at hml; omega
    rw [h, List.append_nil, this, show (i + 1) * 6 = i * 6 + es.length by omega, splice_take_end (by omega)]
  have hcells2 : Hid ((splice (splice cur (i * 6) es) ((i + 1) * 6) mv).size = cur.size ∧ (splice (splice cur (i * 6) es) ((i + 1) * 6) mv).toList.take (n * 6) = cur.toList.take (i * 6) ++ es ++ mv) := by
    have z1 : (splice cur (i * 6) es).size = cur.size := splice_size hb
    refine And.intro ((splice_size (cur := splice cur (i * 6) es) (by rw [z1]; omega)).trans z1) ?_
    rw [show n * 6 = (i + 1) * 6 + mv.length by omega, splice_take_end (cur := splice cur (i * 6) es) (by rw [z1]; omega)]
    congr 1
    rw [show (i + 1) * 6 = i * 6 + es.length by omega, splice_take_end (by omega)]
  have hz1 : ¬ ((i : Int) = (i : Int) + 1) := by omega
  have hii : ((i : Int) + 1).toNat = i + 1 := by omega
  have hin : (i : Int) + 1 ≤ (n : Int) := by omega
  have hi1 : (0 : Int) ≤ (i : Int) + 1 := by omega
  by_cases hend : i + 1 = n
  · subst hend
    have hap : ∀ ty, (Builtin.append_ #[22, 22] ty #[.slice (some ⟨g, 0, none⟩) i cap, .slice (some ⟨gv, 0, none⟩) 1 cv]).run Try.prog w = .ok (.slice (some ⟨g, 0, none⟩) (i + 1) cap) (w.setCells g (i * 6) es) := fun ty => by
      have := run_append_room_cells (P := Try.prog) (w := w) 22 ty 53 inf Try.underlying22 hinf g 0 i cap ⟨gv, 0, none⟩ 1 cv es (by rw [hel, hsz]) hsrc h1e (by omega) (fun j hj => by rw [hsz, Nat.zero_add]; exact hcell j hj) (fun j hj => by rw [hsz, Nat.zero_add]; exact hfro j hj)
      rw [hsz, Nat.zero_add] at this
      exact this
    clear hg hgv h1 h1v hsrc h1e hcell hfro hes
    go_enter Try.func92, Try.ntmps92
    go_wp2_with (at_builtin; refine Lib.wpList_append_run _ rfl _ _ _ _ rfl _ _ rfl rfl _ _ (hap _) ?_)
    all_goals (go_ret; exact ⟨rfl, _, hfin.out, splice_size hb, hcells1.out (List.eq_nil_of_length_eq_zero (by omega))⟩)
  · have hk : Nat.min 1 (n - i) = 1 := by simp only [Nat.min_def]; split <;> omega
    have hcpA : ∀ (W : World), (∀ x, W.cell? x = w.cell? x) → (∀ x, W.frozen? x = w.frozen? x) → ∀ ty dc, (Builtin.copy_ #[22, 22] ty #[.slice (some ⟨g, i * 6, none⟩) (n - i) dc, .slice (some ⟨gv, 0, none⟩) 1 cv]).run Try.prog W = .ok (goInt (Nat.min 1 (n - i))) (W.setCells g (i * 6) es) := fun W hWc hWf ty dc =>
      run_copy_z W _ _ ty _ inf g (i * 6) _ dc ⟨gv, 0, none⟩ 1 cv es Try.underlying22 hinf (by rw [hel, hsz, hk])
        (fun j v hj => by rw [hWc]; exact hsrc j v hj) (fun j hj => by rw [hWc]; exact hcell j hj) (fun j hj => by rw [hWf]; exact hfro j hj) h1e
    obtain ⟨W1, hW1⟩ : ∃ W1, W1 = w.drew.setCells g (i * 6) es := ⟨_, rfl⟩
    have z1 : (splice cur (i * 6) es).size = cur.size := splice_size hb
    have hG1 : W1.heap[g]? = some (.cells (splice cur (i * 6) es) 53 (0, 0)) := by rw [hW1]; exact heap_setCells g es _ w.drew cur hg hb
    have hmv2 : ∀ j v, mv[j]? = some v → W1.cell? ⟨g, (i + 1) * 6 + j, none⟩ = some v := fun j v hj => by
      have ht := (List.getElem?_eq_some_iff.1 hj).1
      have e := hcells2.out.2
      have e2 : (splice cur (i * 6) es).toList.drop ((i + 1) * 6) = cur.toList.drop ((i + 1) * 6) := by
        unfold splice
        simp only [List.toList_toArray]
        rw [List.drop_append_of_le_length (by simp only [List.length_append, List.length_take, Array.length_toList]; omega), List.drop_of_length_le (by simp only [List.length_append, List.length_take, Array.length_toList]; omega), List.nil_append]
        congr 1; omega
      have e3 := congrArg (fun l => l[j]?) e2
      simp only [List.getElem?_drop] at e3
      rw [hmv, List.getElem?_drop, List.getElem?_take, if_pos (by omega)] at hj
      rw [hj, Array.getElem?_toList, Array.getElem?_eq_getElem (by omega)] at e3
      injection e3 with e3
      rw [← e3]; exact cell_of hG1 _
    have hcpB : ∀ (W : World), (∀ x, W.cell? x = W1.cell? x) → (∀ x, W.frozen? x = W1.frozen? x) → ∀ ty dc sc, (Builtin.copy_ #[22, 22] ty #[.slice (some ⟨g, (i + 1) * 6, none⟩) (n - (i + 1)) dc, .slice (some ⟨g, (i + 1) * 6, none⟩) (n - (i + 1)) sc]).run Try.prog W = .ok (goInt (Nat.min (n - (i + 1)) (n - (i + 1)))) (W.setCells g ((i + 1) * 6) mv) := fun W hWc hWf ty dc sc =>
      run_copy_z W _ _ ty _ inf g ((i + 1) * 6) _ dc ⟨g, (i + 1) * 6, none⟩ _ sc mv Try.underlying22 hinf (by rw [hml, hsz]; congr 1; exact (Nat.min_self _).symm)
        (fun j v hj => by rw [hWc, Addr.add_lit]; exact hmv2 j v hj) (fun j hj => by rw [hml] at hj; rw [hWc, cell_of hG1 (by omega)]; rfl) (fun j hj => by rw [hWf]; exact frozen_of hG1 _)
        (fun v hv => h1 v (by rw [hmv] at hv; exact List.mem_of_mem_drop hv))
    have hcl : ∀ (W : World) ty a c, (Builtin.clear_ #[22] ty #[.slice a 0 c]).run Try.prog W = .ok (.tuple #[]) W := fun W ty a c => run_clear_0 W _ _ ty a c _ Try.underlying22 ndz_run
    have hfin2 : Hid (∀ W : World, W.heap = (W1.setCells g ((i + 1) * 6) mv).heap → W.os = w.os → W.tape = w.tape → W.output = w.output → Turn w W g 53 (splice (splice cur (i * 6) es) ((i + 1) * 6) mv)) := fun W hW a1 a2 a3 => by
      refine ⟨by rw [hW]; exact heap_setCells g mv _ W1 _ hG1 (by omega), a1, a2, a3, ?_, fun k _ hk => ?_⟩
      · rw [hW, (setCells_rest _ _ _ _).2.2.2, hW1, (setCells_rest _ _ _ _).2.2.2]; exact Nat.le_refl _
      · rw [hW, heap_setCells_ne _ _ _ _ k hk, hW1, heap_setCells_ne _ _ _ _ k hk]; rfl
    have hci : ¬ (cap = i) := by omega
    have hci1 : ¬ (cap = i + 1) := by omega
    have hmin : (i : Int) + 1 + ((n - (i + 1) : Nat) : Int) = (n : Int) := by omega
    have hlt : (i : Int) + 1 ≠ (n : Int) := by omega
    have hwi : IntKind.i64.wrap ((i : Int) + 1) = (i : Int) + 1 := by rw [IntKind.wrap_i64]; omega
    subst hW1
    have hF1 : ∀ x, ((w.drew.setCells g (i * 6) es).drew).cell? x = (w.drew.setCells g (i * 6) es).cell? x := fun x => rfl
    have hF2 : ∀ x, ((w.drew.setCells g (i * 6) es).drew).frozen? x = (w.drew.setCells g (i * 6) es).frozen? x := fun x => rfl
    have hE1 : ∀ x, w.drew.cell? x = w.cell? x := fun x => rfl
    have hE2 : ∀ x, w.drew.frozen? x = w.frozen? x := fun x => rfl
    clear hg hgv h1 h1v hsrc h1e hcell hfro hes hmv hmv2 hG1 hk
    go_enter Try.func92, Try.ntmps92
    go_wp2
    go_region_o
    go_wp2_with (at_builtin; refine wpList_copy_run _ rfl _ _ 22 22 rfl _ _ rfl rfl (hcpA _ hE1 hE2 _ _) ?_)
    go_region_law_o (refine step_copy_run rfl _ _ 22 22 rfl (.slice (some ⟨g, (i + 1) * 6, none⟩) (n - (i + 1)) (cap - (i + 1))) (.slice (some ⟨g, (i + 1) * 6, none⟩) (n - (i + 1)) (cap - (i + 1))) (by simp [Act.eval, Act.put]) (by simp [Act.eval, Act.put]) (hcpB _ hF1 hF2 3 _ _) ?_)
    go_wp2
    all_goals
      go_ret
      refine ⟨rfl, _, hfin2.out _ (setCells_heap _ _ _ _ _ rfl) ((setCells_rest _ _ _ _).1.trans (setCells_rest _ _ _ _).1) ((setCells_rest _ _ _ _).2.1.trans (setCells_rest _ _ _ _).2.1) ((setCells_rest _ _ _ _).2.2.1.trans (setCells_rest _ _ _ _).2.2.1), ?_, by first | exact hcells2.out.2 | exact hcells2.out.2.trans (List.append_assoc _ _ _)⟩
      first
        | exact hcells2.out.1
        | exact hcells2.out.1.trans (by omega)
def conRepl : Con := fun args hp => match args, hp with
  | [.own 0 0, .int .i64 i, .int .i64 j, .own 1 0], [.rowb 0 .node xs, .rowb 0 .node [y]] => some { pre := some (0 ≤ i ∧ i < xs.length ∧ j = i + 1), res := .own 0 1, hp := [.rowb 1 .node (xs.take i.toNat ++ [y] ++ xs.drop (i.toNat + 1)), .rowb 0 .node [y]] }
  | _, _ => none
theorem repl_holds : Holds 92 conRepl := by
  intro args hp ans hc
  unfold conRepl at hc
  split at hc
  case h_2 => cases hc
  rename_i i j xs y
  injection hc with hc
  subst hc
  intro F I w vals hH hv hpre
  obtain ⟨h0, h1, rfl⟩ := hpre _ rfl
  cases hv with | cons a0 hv => cases hv with | cons a1 hv => cases hv with | cons a2 hv => cases hv with | cons a3 hv =>
  cases hv
  cases (show LeafR _ _ _ _ (.int .i64 i) from a1)
  cases (show LeafR _ _ _ _ (.int .i64 (i + 1)) from a2)
  obtain ⟨in_, rfl⟩ := Int.eq_ofNat_of_zero_le h0
  obtain ⟨l0, hl0, v, vs, rfl, hmx, hown, hall⟩ := hH.hp 0
  obtain ⟨l1, hl1, vv, vvs, rfl, _, hownv, hallv⟩ := hH.hp 1
  have hv0 := ((ValR.own (show ValR w (Own F I) I _ (.own 0 0) from .of1 a0)).2.2 _ _ _ hl0).2 rfl
  have hv2 := ((ValR.own (show ValR w (Own F I) I _ (.own 1 0) from .of1 a3)).2.2 _ _ _ hl1).2 rfl
  rw [hv0, hv2]
  rcases hownv.2 with ⟨_, hz⟩ | ⟨gv, cv, curv, rfl, _, hgv, hnv, _, hcsv, htakev⟩
  · cases hz
  have hxl : in_ < xs.length := by omega
  rcases hown.2 with ⟨_, hz⟩ | ⟨g, cap, cur, rfl, _, hg, hn, hcm, hcs, htake⟩
  · omega
  have hsv : 6 ≤ curv.size := by rw [hcsv]; have : 1 ≤ cv := hnv; show 6 ≤ cv * 6; omega
  have one : ∀ {us : List Value} {l : List AV}, All2 (LeafR w (Own F I) I) us l → ∀ u ∈ us, u.oneCell' = true := fun h u hu => by
    obtain ⟨k, hk⟩ := List.getElem?_of_mem hu
    obtain ⟨x, _, hx⟩ := h.get' hk
    exact hx.one
  have hne : gv ≠ g := fun e => by
    have := hH.inj 0 1 _ _ gv hl0 hl1 (by rw [e]; rfl) rfl
    cases this
  have htv : curv.toList.take 6 = vvs := htakev
  have ht0 : cur.toList.take (xs.length * 6) = vs := htake
  refine (nd_repl g xs.length cap in_ gv cv cur curv w hg hgv hne hxl hn hcm hcs hsv (by rw [ht0]; exact one hall) (by rw [htv]; exact one hallv)).mono ?_
  rintro e w' ⟨rfl, cur', hT, hz, ht⟩
  simp only [Int.toNat_natCast]
  have hlen : (xs.take in_ ++ [y] ++ xs.drop (in_ + 1)).length = xs.length := by simp only [List.length_append, List.length_take, List.length_drop, List.length_cons, List.length_nil]; omega
  obtain ⟨hR', hl'⟩ := hH.toRel.turn (id := 0) (ys := xs.take in_ ++ [y] ++ xs.drop (in_ + 1)) (by rfl) hl0 hT (hz.trans hcs) hcm (by rw [hlen]; exact hn) (by rw [hlen]; exact hmx) (by
    rw [hlen, show xs.length * width .node = xs.length * 6 from rfl, ht, htv, ht0, cellsOf_append, cellsOf_append, cellsOf_take, cellsOf_drop]
    have e1 : cur.toList.take (in_ * 6) = vs.take (in_ * 6) := by rw [← ht0, List.take_take, Nat.min_eq_left (by omega)]
    rw [e1]
    exact ((hall.take _).append hallv).append (hall.drop _))
  rw [hlen] at hR' hl'
  refine Rel.post (hp := [.rowb 0 .node xs, .rowb 0 .node [y]]) (ans := { res := .own 0 1, hp := [.rowb 1 .node (xs.take in_ ++ [y] ++ xs.drop (in_ + 1)), .rowb 0 .node [y]] }) hR' (.leaf hl') rfl fun i hi => ?_
  match i, hi with
  | 0, _ =>
    rw [hl0]
    exact ⟨fun b h => (nomatch h), fun b v h => (nomatch h), fun n t v h => ⟨_, _, _, iup_same _ _ _, fun h => (nomatch h)⟩⟩
  | 1, _ =>
    rw [hl1]
    exact ⟨fun b h => (nomatch h), fun b v h => (nomatch h), fun n t v h => ⟨_, _, _, (iup_ne _ _ (by decide)).trans hl1, fun h => (nomatch h)⟩⟩
  | i + 2, hi => exact absurd hi (by simp)
end Go.Proofs.Ytmkjjopflncedaa.AX
end
section
namespace Go.Proofs.Ytmkjjopflncedaa.AXP
open Go Go.Proofs.Ytmkjjopflncedaa.AX
/-- Is the one list the beginning of the other one? -/
def beg {α : Type} (f : α → α → Bool) : List α → List α → Bool
  | [], _ => true
  | x :: a, y :: b => f x y && beg f a b
  | _ :: _, [] => false
def eql {α : Type} (f : α → α → Bool) : List α → List α → Bool
  | [], [] => true
  | x :: a, y :: b => f x y && eql f a b
  | _, _ => false
def eqAt (x y : At) : Bool := eqS x.1 y.1 && eqS x.2 y.2
def eqI (x y : Int) : Bool := x == y
theorem beg_eql {α : Type} {f : α → α → Bool} : ∀ {a b : List α}, (beg f a b && (a.length == b.length)) = eql f a b
  | [], [] => rfl
  | [], _ :: _ => by simp [beg, eql]
  | _ :: _, [] => by simp [beg, eql]
  | x :: a, y :: b => by simp only [beg, eql, ← beg_eql (a := a) (b := b), List.length_cons, Bool.and_assoc]; simp
end Go.Proofs.Ytmkjjopflncedaa.AXP
namespace Go.Proofs.Ytmkjjopflncedaa.AX
open Go AXP
instance : BEq (den .int) := (inferInstance : BEq Int)
instance : BEq (den .u8) := (inferInstance : BEq Int)
instance : BEq (den .str) := (inferInstance : BEq ByteArray)
def noLoop : Loops := fun _ _ _ => False
/-- A loop over two lists that tells whether one is the beginning of the other one. -/
def sumBeg (t : Ty) (f : den t → den t → Bool) (a b c : List (den t)) (m i : Int) (K : Ex → List AV → List Blk → Prop) : Prop :=
  Rq (c = a ∧ m = a.length ∧ i = 0 ∧ a.length ≤ maxSl) (Br (beg f a b) (K (.exit 0) [.row t a, .row t b, .any] []) (K .ret [.row t a, .row t b, .bool false] []))
def keepBeg : List (Tmp × Want) := [(0, .as), (1, .as), (6, .as), (7, .as), (8, .as)]
def leftBeg : List (Tmp × Want) := [(0, .as), (1, .as), (4, .as)]
def sumAts (vs : List AV) (bs : List Blk) (K : Ex → List AV → List Blk → Prop) : Prop :=
  match vs, bs with
  | [.row .attr a, .row .attr b, .row .attr c, .int .i64 m, .int .i64 i], [] => sumBeg .attr eqAt a b c m i K
  | _, _ => False
def sumIts (vs : List AV) (bs : List Blk) (K : Ex → List AV → List Blk → Prop) : Prop :=
  match vs, bs with
  | [.row .int a, .row .int b, .row .int c, .int .i64 m, .int .i64 i], [] => sumBeg .int eqI a b c m i K
  | _, _ => False
end Go.Proofs.Ytmkjjopflncedaa.AX
end
section
namespace Go.Proofs.Ytmkjjopflncedaa.AX
open Go AXP
set_option maxRecDepth 100000
theorem vcAts (a b : List At) (i m : Int) (K : Ex → List AV → List Blk → Prop) : (bodyA cx0 noLoop Try.f57.ntmps (blkOf Try.f57 0) (bodyOf Try.f57 0) keepBeg leftBeg K [.row .attr a, .row .attr b, .row .attr a, .int .i64 m, .int .i64 i] []) = (
Br (decide (i < m))
  (Br (decide (i ≥ (↑b.length : Int)))
    (Gv (b.length ≤ maxSl) (K Ex.ret [AV.row Ty.attr a, AV.row Ty.attr b, AV.bool false] []))
    (Rq ((0 : Int) ≤ i ∧ i < (↑a.length : Int))
      (Rq ((0 : Int) ≤ i ∧ i < (↑b.length : Int))
        (Gv (b.length ≤ maxSl)
          (Br (!(eqS (rd Ty.attr a i).1 (rd Ty.attr b i).1 && eqS (rd Ty.attr a i).2 (rd Ty.attr b i).2))
            (K Ex.ret [AV.row Ty.attr a, AV.row Ty.attr b, AV.bool false] [])
            (K Ex.norm
              [AV.row Ty.attr a, AV.row Ty.attr b, AV.row Ty.attr a, AV.int IntKind.i64 m,
                AV.int IntKind.i64 (IntKind.i64.wrap (i + (1 : Int)))]
              []))))))
  (K (Ex.exit (0 : Nat)) [AV.row Ty.attr a, AV.row Ty.attr b, AV.any] [])) := by kernel_rfl
theorem vcAtsF (a b : List At) (Q : List AV → List Blk → List Blk → Prop) : (funA cx0 (fun _ s K => loopA Try.f57.ntmps keepBeg leftBeg sumAts s K) Try.f57 [.row .attr a, .row .attr b] [] [] Q) = (
Gv (a.length ≤ maxSl)
  (Rq (a = a ∧ (↑a.length : Int) = (↑a.length : Int) ∧ (0 : Int) = (0 : Int) ∧ a.length ≤ maxSl)
    (Br (beg eqAt a b)
      (Gv (a.length ≤ maxSl) (Gv (b.length ≤ maxSl) (Q [AV.bool ((↑a.length : Int) == (↑b.length : Int))] [] [])))
      (Q [AV.bool false] [] [])))) := by kernel_rfl
theorem vcIts (a b : List Int) (i m : Int) (K : Ex → List AV → List Blk → Prop) : (bodyA cx0 noLoop Try.f53.ntmps (blkOf Try.f53 0) (bodyOf Try.f53 0) keepBeg leftBeg K [.row .int a, .row .int b, .row .int a, .int .i64 m, .int .i64 i] []) = (
Br (decide (i < m))
  (Br (decide (i ≥ (↑b.length : Int)))
    (Gv (b.length ≤ maxSl) (K Ex.ret [AV.row Ty.int a, AV.row Ty.int b, AV.bool false] []))
    (Rq ((0 : Int) ≤ i ∧ i < (↑a.length : Int))
      (Rq ((0 : Int) ≤ i ∧ i < (↑b.length : Int))
        (Gv (b.length ≤ maxSl)
          (Br (rd Ty.int a i != rd Ty.int b i) (K Ex.ret [AV.row Ty.int a, AV.row Ty.int b, AV.bool false] [])
            (K Ex.norm
              [AV.row Ty.int a, AV.row Ty.int b, AV.row Ty.int a, AV.int IntKind.i64 m,
                AV.int IntKind.i64 (IntKind.i64.wrap (i + (1 : Int)))]
              []))))))
  (K (Ex.exit (0 : Nat)) [AV.row Ty.int a, AV.row Ty.int b, AV.any] [])) := by kernel_rfl
theorem vcItsF (a b : List Int) (Q : List AV → List Blk → List Blk → Prop) : (funA cx0 (fun _ s K => loopA Try.f53.ntmps keepBeg leftBeg sumIts s K) Try.f53 [.row .int a, .row .int b] [] [] Q) = (
Gv (a.length ≤ maxSl)
  (Rq (a = a ∧ (↑a.length : Int) = (↑a.length : Int) ∧ (0 : Int) = (0 : Int) ∧ a.length ≤ maxSl)
    (Br (beg eqI a b)
      (Gv (a.length ≤ maxSl) (Gv (b.length ≤ maxSl) (Q [AV.bool ((↑a.length : Int) == (↑b.length : Int))] [] [])))
      (Q [AV.bool false] [] [])))) := by kernel_rfl
end Go.Proofs.Ytmkjjopflncedaa.AX
end
section
namespace Go.Proofs.Ytmkjjopflncedaa.AX
open Go AXP
set_option maxRecDepth 100000

theorem wrap_id {i : Int} (h0 : -9223372036854775808 ≤ i) (h1 : i < 9223372036854775808) : IntKind.i64.wrap i = i := by
  rw [IntKind.wrap_i64]; omega
/-- One round of such a loop. -/
def begRound (t : Ty) (f : den t → den t → Bool) (a b : List (den t)) (i m : Int) (K : Ex → List AV → List Blk → Prop) : Prop :=
  Br (decide (i < m))
    (Br (decide (i ≥ (b.length : Int))) (Gv (b.length ≤ maxSl) (K Ex.ret [.row t a, .row t b, .bool false] []))
      (Rq (0 ≤ i ∧ i < (a.length : Int)) (Rq (0 ≤ i ∧ i < (b.length : Int)) (Gv (b.length ≤ maxSl)
        (Br (!(f (rd t a i) (rd t b i))) (K Ex.ret [.row t a, .row t b, .bool false] [])
          (K Ex.norm [.row t a, .row t b, .row t a, .int .i64 m, .int .i64 (IntKind.i64.wrap (i + 1))] []))))))
    (K (Ex.exit 0) [.row t a, .row t b, .any] [])
theorem beg_drop {α : Type} {f : α → α → Bool} {a b : List α} {i : Nat} (ha : i < a.length) (hb : i < b.length) : beg f (a.drop i) (b.drop i) = (f a[i] b[i] && beg f (a.drop (i + 1)) (b.drop (i + 1))) := by
  rw [List.drop_eq_getElem_cons ha, List.drop_eq_getElem_cons hb]; rfl
theorem beg_rounds {cx : Cx} {L : Loops} {n bl : Nat} {c : Code} {keep left : List (Tmp × Want)} {t : Ty} {f : den t → den t → Bool} {a b : List (den t)} (hb : ∀ (i : Nat) K, begRound t f a b i a.length K → bodyA cx L n bl c keep left K [.row t a, .row t b, .row t a, .int .i64 a.length, .int .i64 i] [])
    {K : Ex → List AV → List Blk → Prop} (hm : a.length ≤ maxSl) : ∀ (k i : Nat), i + k = a.length → (beg f (a.drop i) (b.drop i) = true → K (.exit 0) [.row t a, .row t b, .any] []) → (beg f (a.drop i) (b.drop i) = false → K .ret [.row t a, .row t b, .bool false] []) →
      roundsA cx L n bl c keep left K (k + 1) [.row t a, .row t b, .row t a, .int .i64 a.length, .int .i64 i] [] := by
  intro k
  induction k with
  | zero =>
    intro i hi h1 h2
    rw [roundsA]
    refine hb i _ ⟨fun h => ?_, fun _ => h1 ?_⟩
    · simp at h; omega
    · rw [List.drop_eq_nil_of_le (by omega)]; rfl
  | succ k ih =>
    intro i hi h1 h2
    have hlt : i < a.length := by omega
    rw [roundsA]
    have hw : IntKind.i64.wrap ((i : Int) + 1) = ((i + 1 : Nat) : Int) := by
      rw [wrap_id] <;> unfold maxSl at hm <;> omega
    refine hb i _ ⟨fun h => ⟨fun h3 => ⟨fun _ => h2 ?_⟩, fun h3 => ?_⟩, fun h => ?_⟩
    · simp at h3
      have e : b.drop i = [] := List.drop_eq_nil_of_le (by omega)
      rw [e, List.drop_eq_getElem_cons hlt]; rfl
    · simp at h3
      have hlb : i < b.length := by omega
      rw [beg_drop hlt hlb] at h1 h2
      have ra : rd t a (i : Int) = a[i] := by rw [rd_eq (by simpa using hlt)]; simp
      have rb : rd t b (i : Int) = b[i] := by rw [rd_eq (by simpa using hlb)]; simp
      refine ⟨⟨by omega, by omega⟩, ⟨⟨by omega, by omega⟩, ⟨fun _ => ⟨fun h4 => h2 ?_, fun h4 => ?_⟩⟩⟩⟩
      · rw [ra, rb] at h4; simp at h4; simp [h4]
      · rw [ra, rb] at h4
        simp at h4
        simp only [h4, Bool.true_and] at h1 h2
        rw [hw]
        exact ih (i + 1) (by omega) h1 h2
    · simp at h; omega
theorem sumBeg_ok {cx : Cx} {L : Loops} {n bl : Nat} {c : Code} {keep left : List (Tmp × Want)} {t : Ty} {f : den t → den t → Bool} {a b d : List (den t)} (hb : ∀ (i : Nat) K, begRound t f a b i a.length K → bodyA cx L n bl c keep left K [.row t a, .row t b, .row t a, .int .i64 a.length, .int .i64 i] []) {m i : Int} {K : Ex → List AV → List Blk → Prop} (h : sumBeg t f a b d m i K) : ∃ k, roundsA cx L n bl c keep left K k [.row t a, .row t b, .row t d, .int .i64 m, .int .i64 i] [] := by
  obtain ⟨⟨rfl, rfl, rfl, hm⟩, h⟩ := h
  exact ⟨_, beg_rounds hb hm d.length 0 (by omega) (fun e => h.yes e) (fun e => h.no e)⟩

def conAts : Con := fun args hp => match args, hp with
  | [x, y], [] => (asAttrs x).bind fun a => (asAttrs y).bind fun b => some { res := .bool (eql eqAt a b) }
  | _, _ => none
def conIts : Con := fun args hp => match args, hp with
  | [x, y], [] => (asInts x).bind fun a => (asInts y).bind fun b => some { res := .bool (eql eqI a b) }
  | _, _ => none
theorem asAttrs_le {x : AV} {l : List At} (h : asAttrs x = some l) : AVle x (.row .attr l) := fun w O I v hv => by
  cases x <;> first | (cases h; done) | exact .leaf (asAttrs_R (show LeafR w O I v _ from hv) h)
theorem asInts_le {x : AV} {l : List Int} (h : asInts x = some l) : AVle x (.row .int l) := fun w O I v hv => by
  cases x <;> first | (cases h; done) | exact .leaf (asInts_R (show LeafR w O I v _ from hv) h)
/-- The function's text. -/
def begFun (t : Ty) (g : den t → den t → Bool) (a b : List (den t)) (Q : List AV → List Blk → List Blk → Prop) : Prop :=
  Gv (a.length ≤ maxSl) (Rq (a = a ∧ (a.length : Int) = a.length ∧ (0 : Int) = 0 ∧ a.length ≤ maxSl) (Br (beg g a b) (Gv (a.length ≤ maxSl) (Gv (b.length ≤ maxSl) (Q [AV.bool ((a.length : Int) == (b.length : Int))] [] []))) (Q [AV.bool false] [] [])))
theorem beg_fun {T : Nat → List AV → List Blk → Option Ans} (tok : TOK (cxT T)) {f : FuncId} {fn : Func} {t : Ty} {g : den t → den t → Bool} {sum : List AV → List Blk → (Ex → List AV → List Blk → Prop) → Prop} (hf : Try.prog.funcs[f]? = some fn) (hb : fn.body = some (fn.body.getD .skip)) (h1 : (loopsOf 0 (fn.body.getD .skip)).length = 1) (hcl : clearC [] (fn.body.getD .skip) = true) (hcl1 : clearC [] (bodyOf fn 0) = true) (hl0 : (loopsOf (blkOf fn 0) (bodyOf fn 0)).length = 0)
    (hsz : fn.results.size = 1) (hnt : Nat.ble 2 fn.ntmps = true)
    {ok : List (den t) → Prop} (hbody : ∀ a b, ok a → ∀ (i : Nat) K, begRound t g a b i a.length K → bodyA (cxT T) noLoop fn.ntmps (blkOf fn 0) (bodyOf fn 0) keepBeg leftBeg K [.row t a, .row t b, .row t a, .int .i64 a.length, .int .i64 i] [])
    (hsum : ∀ vs bs K, sum vs bs K → ∃ a b d m i, ok a ∧ vs = [.row t a, .row t b, .row t d, .int .i64 m, .int .i64 i] ∧ bs = [] ∧ sumBeg t g a b d m i K)
    (a b : List (den t)) (pre : Option Prop) (hfun : (∀ p, pre = some p → p) → ∀ Q, begFun t g a b Q → funA (cxT T) (fun _ s K => loopA fn.ntmps keepBeg leftBeg sum s K) fn [.row t a, .row t b] [] [] Q)
     : Meets cx0 f [.row t a, .row t b] [] { pre := pre, res := .bool (eql g a b) } := by
  refine meets_any (T := fun _ _ _ => none) (show Meets (cxT T) _ _ _ _ from ?_)
  refine fun_meets (cx := cxT T) (ws := []) (L := fun _ s K => loopA fn.ntmps keepBeg leftBeg sum s K) (cxOK T) tok hf hb (loops_ok hb 1 h1 fun i hi s K hL => ?_) hcl ?_ fun hpre => ?_
  · have : i = 0 := by omega
    subst this
    refine loop_snd (L := noLoop) (cxOK T) tok (b := blkOf fn 0) (fun p hp => ?_) hcl1 (fun vs bs K hs => ?_) hL
    · rw [List.eq_nil_of_length_eq_zero hl0] at hp; cases hp
    · obtain ⟨a, b, d, m, i, ha, rfl, rfl, hs'⟩ := hsum vs bs K hs
      exact sumBeg_ok (hbody a b ha) hs'
  · simp only [formB, formS, noSame, sameB, ptrsB, kindsB, isTup, hsz, List.length_cons, List.length_nil, Bool.true_and, Bool.and_true]; exact hnt
  · refine hfun hpre _ ?_
    have key : ((a.length : Int) == (b.length : Int)) = (a.length == b.length) := by
      rw [Bool.eq_iff_iff]; simp only [beq_iff_eq]; exact Int.ofNat_inj
    refine ⟨fun ha => ⟨⟨rfl, rfl, rfl, ha⟩, ⟨fun e => ⟨fun _ => ⟨fun _ => ⟨fun _ h => (nomatch h), ?_, rfl, rfl⟩⟩⟩, fun e => ⟨fun _ h => (nomatch h), ?_, rfl, rfl⟩⟩⟩⟩
    · show [AV.bool _] = [AV.bool _]
      rw [← beg_eql, e, Bool.true_and, key]
    · show [AV.bool _] = [AV.bool _]
      rw [← beg_eql, e, Bool.false_and]
theorem tok0 : TOK (cxT fun _ _ _ => none) := ⟨fun _ _ _ _ h => (nomatch h), fun _ _ _ _ h => (nomatch h)⟩
theorem ats_holds : Holds 57 conAts := by
  intro args hp ans h
  unfold conAts at h
  split at h
  · rename_i x y
    simp only [Option.bind_eq_some_iff] at h
    obtain ⟨a, hx, b, hy, h⟩ := h
    injection h with h
    subst h
    refine Meets.weaken (.cons (asAttrs_le hx) (.cons (asAttrs_le hy) .nil)) ?_
    refine beg_fun tok0 (t := .attr) (g := eqAt) (sum := sumAts) (f := 57) (fn := Try.f57) (by kernel_rfl) (by kernel_rfl) (by kernel_rfl) (by kernel_rfl) (by kernel_rfl) (by kernel_rfl) (by kernel_rfl) (by kernel_rfl) (ok := fun _ => True) (fun a b _ i K h => Eq.mpr (vcAts a b i a.length K) h) (fun vs bs K hs => ?_) a b none (fun _ Q h => Eq.mpr (vcAtsF a b Q) h)
    unfold sumAts at hs
    split at hs
    · exact ⟨_, _, _, _, _, trivial, rfl, rfl, hs⟩
    · exact hs.elim
  · cases h
theorem its_holds : Holds 53 conIts := by
  intro args hp ans h
  unfold conIts at h
  split at h
  · rename_i x y
    simp only [Option.bind_eq_some_iff] at h
    obtain ⟨a, hx, b, hy, h⟩ := h
    injection h with h
    subst h
    refine Meets.weaken (.cons (asInts_le hx) (.cons (asInts_le hy) .nil)) ?_
    refine beg_fun tok0 (t := .int) (g := eqI) (sum := sumIts) (f := 53) (fn := Try.f53) (by kernel_rfl) (by kernel_rfl) (by kernel_rfl) (by kernel_rfl) (by kernel_rfl) (by kernel_rfl) (by kernel_rfl) (by kernel_rfl) (ok := fun _ => True) (fun a b _ i K h => Eq.mpr (vcIts a b i a.length K) h) (fun vs bs K hs => ?_) a b none (fun _ Q h => Eq.mpr (vcItsF a b Q) h)
    unfold sumIts at hs
    split at hs
    · exact ⟨_, _, _, _, _, trivial, rfl, rfl, hs⟩
    · exact hs.elim
  · cases h
end Go.Proofs.Ytmkjjopflncedaa.AX
end
section
namespace Go.Proofs.Ytmkjjopflncedaa.AXP
open Go Go.Proofs.Ytmkjjopflncedaa.AX
mutual
def eqNd : Nd → Nd → Bool
  | ⟨k, s, n, a, t, c⟩, ⟨k', s', n', a', t', c'⟩ => k == k' && s == s' && eqS n n' && eqS t t' && eql eqAt a a' && eqNds c c'
def eqNds : List Nd → List Nd → Bool
  | [], [] => true
  | x :: a, y :: b => eqNd x y && eqNds a b
  | _, _ => false
end
theorem eqNds_eql : ∀ {a b : List Nd}, eqNds a b = eql eqNd a b
  | [], [] => by simp [eqNds, eql]
  | [], _ :: _ => by simp [eqNds, eql]
  | _ :: _, [] => by simp [eqNds, eql]
  | x :: a, y :: b => by simp only [eqNds, eql, eqNds_eql (a := a)]
noncomputable def szNds (l : List Nd) : Nat := SizeOf.sizeOf l
theorem szNds_kids {l : List Nd} {i : Nat} (h : i < l.length) : szNds l[i].kids < szNds l := by
  have h1 : SizeOf.sizeOf l[i] < SizeOf.sizeOf l := List.sizeOf_lt_of_mem (List.getElem_mem h)
  have h2 : SizeOf.sizeOf l[i].kids < SizeOf.sizeOf l[i] := by cases l[i]; simp; omega
  exact Nat.lt_trans h2 h1
end Go.Proofs.Ytmkjjopflncedaa.AXP
namespace Go.Proofs.Ytmkjjopflncedaa.AX
open Go AXP
/-- Nodes in lists that are no greater than so. -/
noncomputable def conNodesLt (k : Nat) : Con := fun args hp => match args, hp with
  | [x, y], [] => (asNodes x).bind fun a => (asNodes y).bind fun b => some { pre := some (szNds a < k), res := .bool (eql eqNd a b) }
  | _, _ => none
noncomputable def conNode (k : Nat) : Con := fun args hp => match args, hp with
  | [.agg x, .agg y], [] => (toNd x).bind fun a => (toNd y).bind fun b => some { pre := some (szNds a.kids < k), res := .bool (eqNd a b) }
  | _, _ => none
noncomputable def cxNode (k : Nat) : Cx := cxT (tabLook [(19, conNodesLt k), (57, conAts)])
noncomputable def cxNodes (k : Nat) : Cx := cxT (tabLook [(38, conNode k)])
noncomputable def sumNds (k : Nat) (vs : List AV) (bs : List Blk) (K : Ex → List AV → List Blk → Prop) : Prop :=
  match vs, bs with
  | [.row .node a, .row .node b, .row .node c, .int .i64 m, .int .i64 i], [] => Rq (szNds a < k + 1) (sumBeg .node eqNd a b c m i K)
  | _, _ => False
end Go.Proofs.Ytmkjjopflncedaa.AX
end
section
namespace Go.Proofs.Ytmkjjopflncedaa.AX
open Go AXP
set_option maxRecDepth 100000
theorem vcNodeF (k : Nat) (a b : Nd) (Q : List AV → List Blk → List Blk → Prop) : (funA (cxNode k) noLoop Try.f38 [.agg (nodeL a), .agg (nodeL b)] [] [] Q) = (
Br (a.1 == b.1)
  (Br (a.2 == b.2)
    (Br (eqS a.3 b.3)
      (Br (eqS a.5 b.5)
        (Br (eql eqAt a.4 b.4) (Rq (szNds a.6 < k) (Q [AV.bool (eql eqNd a.6 b.6)] [] [])) (Q [AV.bool false] [] []))
        (Q [AV.bool false] [] []))
      (Q [AV.bool false] [] []))
    (Q [AV.bool false] [] []))
  (Q [AV.bool false] [] [])) := by kernel_rfl
theorem vcNds (k : Nat) (a b : List Nd) (i m : Int) (K : Ex → List AV → List Blk → Prop) : (bodyA (cxNodes k) noLoop Try.f19.ntmps (blkOf Try.f19 0) (bodyOf Try.f19 0) keepBeg leftBeg K [.row .node a, .row .node b, .row .node a, .int .i64 m, .int .i64 i] []) = (
Br (decide (i < m))
  (Br (decide (i ≥ (↑b.length : Int)))
    (Gv (b.length ≤ maxSl) (K Ex.ret [AV.row Ty.node a, AV.row Ty.node b, AV.bool false] []))
    (Rq ((0 : Int) ≤ i ∧ i < (↑a.length : Int))
      (Rq ((0 : Int) ≤ i ∧ i < (↑b.length : Int))
        (Rq (szNds (rd Ty.node a i).6 < k)
          (Gv (b.length ≤ maxSl)
            (Br
              (!eqNd
                  (Nd.mk (rd Ty.node a i).1 (rd Ty.node a i).2 (rd Ty.node a i).3 (rd Ty.node a i).4 (rd Ty.node a i).5
                    (rd Ty.node a i).6)
                  (Nd.mk (rd Ty.node b i).1 (rd Ty.node b i).2 (rd Ty.node b i).3 (rd Ty.node b i).4 (rd Ty.node b i).5
                    (rd Ty.node b i).6))
              (K Ex.ret [AV.row Ty.node a, AV.row Ty.node b, AV.bool false] [])
              (K Ex.norm
                [AV.row Ty.node a, AV.row Ty.node b, AV.row Ty.node a, AV.int IntKind.i64 m,
                  AV.int IntKind.i64 (IntKind.i64.wrap (i + (1 : Int)))]
                [])))))))
  (K (Ex.exit (0 : Nat)) [AV.row Ty.node a, AV.row Ty.node b, AV.any] [])) := by kernel_rfl
theorem vcNdsF (k : Nat) (a b : List Nd) (Q : List AV → List Blk → List Blk → Prop) : (funA (cxNodes k) (fun _ s K => loopA Try.f19.ntmps keepBeg leftBeg (sumNds k) s K) Try.f19 [.row .node a, .row .node b] [] [] Q) = (
Gv (a.length ≤ maxSl)
  (Rq (szNds a < k + (1 : Nat))
    (Rq (a = a ∧ (↑a.length : Int) = (↑a.length : Int) ∧ (0 : Int) = (0 : Int) ∧ a.length ≤ maxSl)
      (Br (beg eqNd a b)
        (Gv (a.length ≤ maxSl) (Gv (b.length ≤ maxSl) (Q [AV.bool ((↑a.length : Int) == (↑b.length : Int))] [] [])))
        (Q [AV.bool false] [] []))))) := by kernel_rfl
end Go.Proofs.Ytmkjjopflncedaa.AX
end
section
namespace Go.Proofs.Ytmkjjopflncedaa.AX
open Go AXP
set_option maxRecDepth 100000
theorem asNodes_le {x : AV} {l : List Nd} (h : asNodes x = some l) : AVle x (.row .node l) := fun w O I v hv => by
  cases x <;> first | (cases h; done) | exact .leaf (asNodes_R (show LeafR w O I v _ from hv) h)
theorem toNd_le {x : List AV} {n : Nd} (h : toNd x = some n) : AVle (.agg x) (.agg (nodeL n)) := fun w O I v hv => by
  obtain ⟨cs, rfl, hall⟩ := hv
  exact ⟨cs, rfl, toNd_R hall h⟩
theorem nd_eta (n : Nd) : Nd.mk n.1 n.2 n.3 n.4 n.5 n.6 = n := by cases n; rfl
theorem eqNd_eq (a b : Nd) : eqNd a b = (a.1 == b.1 && a.2 == b.2 && eqS a.3 b.3 && eqS a.5 b.5 && eql eqAt a.4 b.4 && eqNds a.6 b.6) := by cases a; cases b; rw [eqNd]
theorem node_of {k : Nat} (h : Holds 19 (conNodesLt k)) : Holds 38 (conNode k) := by
  have tok : TOK (cxNode k) := tab_ok (fun p hp => by
    cases hp with
    | head => exact h
    | tail _ hp => cases hp with
      | head => exact ats_holds
      | tail _ hp => cases hp) (fun p hp => by
    cases hp with
    | head => exact enter_of (by kernel_rfl)
    | tail _ hp => cases hp with
      | head => exact enter_of (by kernel_rfl)
      | tail _ hp => cases hp)
  intro args hp ans hc
  unfold conNode at hc
  split at hc
  · rename_i x y
    simp only [Option.bind_eq_some_iff] at hc
    obtain ⟨a, hx, b, hy, hc⟩ := hc
    injection hc with hc
    subst hc
    refine Meets.weaken (.cons (toNd_le hx) (.cons (toNd_le hy) .nil)) ?_
    refine meets_any (T := fun _ _ _ => none) (show Meets (cxNode k) _ _ _ _ from ?_)
    refine fun_meets (fn := Try.f38) (c := Try.f38.body.getD .skip) (ws := []) (L := noLoop) (cxOK _) tok (by kernel_rfl) (by kernel_rfl) (fun p hp => ?_) (by kernel_rfl) (by kernel_rfl) fun hpre => ?_
    · have : (loopsOf 0 (Try.f38.body.getD .skip)).length = 0 := by kernel_rfl
      rw [List.eq_nil_of_length_eq_zero this] at hp; cases hp
    · have e := eqNd_eq a b
      rw [eqNds_eql] at e
      refine Eq.mpr (vcNodeF k a b _) ⟨fun h1 => ⟨fun h2 => ⟨fun h3 => ⟨fun h4 => ⟨fun h5 => ⟨hpre _ rfl, ⟨fun _ h => (nomatch h), ?_, rfl, rfl⟩⟩, fun h5 => ⟨fun _ h => (nomatch h), ?_, rfl, rfl⟩⟩, fun h4 => ⟨fun _ h => (nomatch h), ?_, rfl, rfl⟩⟩, fun h3 => ⟨fun _ h => (nomatch h), ?_, rfl, rfl⟩⟩, fun h2 => ⟨fun _ h => (nomatch h), ?_, rfl, rfl⟩⟩, fun h1 => ⟨fun _ h => (nomatch h), ?_, rfl, rfl⟩⟩ <;>
      · show [AV.bool _] = [AV.bool _]
        rw [e]
        simp only [*, Bool.true_and, Bool.false_and, Bool.and_false]
  · cases hc
theorem nodes_step {k : Nat} (h : Holds 38 (conNode k)) : Holds 19 (conNodesLt (k + 1)) := by
  have tok : TOK (cxNodes k) := tab_ok (fun p hp => by
    cases hp with
    | head => exact h
    | tail _ hp => cases hp) (fun p hp => by
    cases hp with
    | head => exact enter_of (by kernel_rfl)
    | tail _ hp => cases hp)
  intro args hp ans hc
  unfold conNodesLt at hc
  split at hc
  · rename_i x y
    simp only [Option.bind_eq_some_iff] at hc
    obtain ⟨a, hx, b, hy, hc⟩ := hc
    injection hc with hc
    subst hc
    refine Meets.weaken (.cons (asNodes_le hx) (.cons (asNodes_le hy) .nil)) ?_
    refine beg_fun tok (t := .node) (g := eqNd) (sum := sumNds k) (f := 19) (fn := Try.f19) (by kernel_rfl) (by kernel_rfl) (by kernel_rfl) (by kernel_rfl) (by kernel_rfl) (by kernel_rfl) (by kernel_rfl) (by kernel_rfl) (ok := fun a => szNds a < k + 1) (fun a b hs i K h => ?_) (fun vs bs K hs => ?_) a b _ (fun hpre Q h => ?_)
    · refine Eq.mpr (vcNds k a b i a.length K) ⟨fun h1 => ⟨fun h2 => (h.yes h1).yes h2, fun h2 => ?_⟩, h.no⟩
      obtain ⟨i1, i2, i3⟩ := (h.yes h1).no h2
      refine ⟨i1, i2, ?_, ?_⟩
      · have hlt : i < a.length := by have := i1.2; omega
        have ra : rd .node a (i : Int) = a[i] := by rw [rd_eq (by simpa using hlt)]; simp
        rw [ra]
        exact Nat.lt_of_lt_of_le (szNds_kids hlt) (Nat.le_of_lt_succ hs)
      · rw [nd_eta (rd .node a (i : Int)), nd_eta (rd .node b (i : Int))]; exact i3
    · unfold sumNds at hs
      split at hs
      · exact ⟨_, _, _, _, _, hs.it, rfl, rfl, hs.on⟩
      · exact hs.elim
    · refine Eq.mpr (vcNdsF k a b Q) ⟨fun h1 => ⟨hpre _ rfl, h.on h1⟩⟩
  · cases hc
theorem nodes_lt : ∀ k, Holds 19 (conNodesLt k)
  | 0 => by
    intro args hp ans hc
    unfold conNodesLt at hc
    split at hc
    · simp only [Option.bind_eq_some_iff] at hc
      obtain ⟨a, hx, b, hy, hc⟩ := hc
      injection hc with hc
      subst hc
      intro F I w vals _ _ hpre
      exact absurd (hpre _ rfl) (Nat.not_lt_zero _)
    · cases hc
  | k + 1 => nodes_step (node_of (nodes_lt k))
/-- The contract without a bound. -/
theorem Meets.nopre {cx : Cx} {f : Nat} {args : List AV} {hp : List Blk} {ans : Ans} (h : Meets cx f args hp ans) (hp' : ∀ p, ans.pre = some p → p) : Meets cx f args hp { ans with pre := none } :=
  fun F I w vals hH hv _ => h F I w vals hH hv hp'
def conNodes : Con := fun args hp => match args, hp with
  | [x, y], [] => (asNodes x).bind fun a => (asNodes y).bind fun b => some { res := .bool (eql eqNd a b) }
  | _, _ => none
theorem nodes_holds : Holds 19 conNodes := by
  intro args hp ans hc
  unfold conNodes at hc
  split at hc
  · rename_i x y
    simp only [Option.bind_eq_some_iff] at hc
    obtain ⟨a, hx, b, hy, hc⟩ := hc
    injection hc with hc
    subst hc
    refine Meets.nopre (ans := { pre := some (szNds a < szNds a + 1), res := .bool (eql eqNd a b) }) (nodes_lt (szNds a + 1) [x, y] [] { pre := some (szNds a < szNds a + 1), res := .bool (eql eqNd a b) } ?_) (fun p hp => ?_)
    · simp only [conNodesLt, hx, hy, Option.bind_some]
    · injection hp with hp; subst hp; exact Nat.lt_succ_self _
  · cases hc
def conNode' : Con := fun args hp => match args, hp with
  | [.agg x, .agg y], [] => (toNd x).bind fun a => (toNd y).bind fun b => some { res := .bool (eqNd a b) }
  | _, _ => none
theorem node_holds : Holds 38 conNode' := by
  intro args hp ans hc
  unfold conNode' at hc
  split at hc
  · rename_i x y
    simp only [Option.bind_eq_some_iff] at hc
    obtain ⟨a, hx, b, hy, hc⟩ := hc
    injection hc with hc
    subst hc
    refine Meets.nopre (ans := { pre := some (szNds a.kids < szNds a.kids + 1), res := .bool (eqNd a b) }) (node_of (nodes_lt (szNds a.kids + 1)) [.agg x, .agg y] [] { pre := some (szNds a.kids < szNds a.kids + 1), res := .bool (eqNd a b) } ?_) (fun p hp => ?_)
    · simp only [conNode, hx, hy, Option.bind_some]
    · injection hp with hp; subst hp; exact Nat.lt_succ_self _
  · cases hc
end Go.Proofs.Ytmkjjopflncedaa.AX
end
section
namespace Go.Proofs.Ytmkjjopflncedaa.AX
open Go AXP
set_option maxRecDepth 100000
theorem vcCloneAtsC (a : At) (l : List At) (Q : List AV → List Blk → List Blk → Prop) : (funA cx0 noLoop Try.f61 [.row .attr (a :: l)] [] [] Q) = (
Rq (((0 : Nat) + (a :: l).length) * (32 : Nat) ≤ maxSl)
  (Q [AV.own (0 : Nat) (0 : Nat)] [] [Blk.rowb (0 : Nat) Ty.attr (a :: l)])) := by kernel_rfl
theorem vcCloneAtsN (Q : List AV → List Blk → List Blk → Prop) : (funA cx0 noLoop Try.f61 [.nil] [] [.own .attr] Q) = (
Q [AV.own (0 : Nat) (0 : Nat)] [] [Blk.rowb (0 : Nat) Ty.attr []]) := by kernel_rfl
theorem vcCloneAtsZ (Q : List AV → List Blk → List Blk → Prop) : (funA cx0 noLoop Try.f61 [.zrow] [] [] Q) = (
Rq (((0 : Nat) + (0 : Nat)) * (32 : Nat) ≤ maxSl) (Q [AV.own (0 : Nat) (0 : Nat)] [] [Blk.rowb (0 : Nat) Ty.attr []])) := by kernel_rfl
theorem vcCloneNdsC (a : Nd) (l : List Nd) (Q : List AV → List Blk → List Blk → Prop) : (funA cx0 noLoop Try.f60 [.row .node (a :: l)] [] [] Q) = (
Rq (((0 : Nat) + (a :: l).length) * (96 : Nat) ≤ maxSl)
  (Q [AV.own (0 : Nat) (0 : Nat)] [] [Blk.rowb (0 : Nat) Ty.node (a :: l)])) := by kernel_rfl
theorem vcCloneNdsN (Q : List AV → List Blk → List Blk → Prop) : (funA cx0 noLoop Try.f60 [.nil] [] [.own .node] Q) = (
Q [AV.own (0 : Nat) (0 : Nat)] [] [Blk.rowb (0 : Nat) Ty.node []]) := by kernel_rfl
theorem vcCloneNdsZ (Q : List AV → List Blk → List Blk → Prop) : (funA cx0 noLoop Try.f60 [.zrow] [] [] Q) = (
Rq (((0 : Nat) + (0 : Nat)) * (96 : Nat) ≤ maxSl) (Q [AV.own (0 : Nat) (0 : Nat)] [] [Blk.rowb (0 : Nat) Ty.node []])) := by kernel_rfl
theorem vcCloneItsC (a : Int) (l : List Int) (Q : List AV → List Blk → List Blk → Prop) : (funA cx0 noLoop Try.f93 [.row .int (a :: l)] [] [] Q) = (
Rq (((0 : Nat) + (a :: l).length) * (8 : Nat) ≤ maxSl)
  (Q [AV.own (0 : Nat) (0 : Nat)] [] [Blk.rowb (0 : Nat) Ty.int (a :: l)])) := by kernel_rfl
theorem vcCloneItsN (Q : List AV → List Blk → List Blk → Prop) : (funA cx0 noLoop Try.f93 [.nil] [] [.own .int] Q) = (
Q [AV.own (0 : Nat) (0 : Nat)] [] [Blk.rowb (0 : Nat) Ty.int []]) := by kernel_rfl
theorem vcCloneItsZ (Q : List AV → List Blk → List Blk → Prop) : (funA cx0 noLoop Try.f93 [.zrow] [] [] Q) = (
Rq (((0 : Nat) + (0 : Nat)) * (8 : Nat) ≤ maxSl) (Q [AV.own (0 : Nat) (0 : Nat)] [] [Blk.rowb (0 : Nat) Ty.int []])) := by kernel_rfl
end Go.Proofs.Ytmkjjopflncedaa.AX
end
section
namespace Go.Proofs.Ytmkjjopflncedaa.AX
open Go AXP
set_option maxRecDepth 100000
def cloneAns (t : Ty) (by_ : Nat) (l : List (den t)) : Ans := { pre := some (l.length * by_ ≤ maxSl), res := .own 0 0, extra := [.rowb 0 t l] }
theorem clone_meets {f : FuncId} {fn : Func} {t : Ty} {by_ : Nat} (hf : Try.prog.funcs[f]? = some fn) (hb : fn.body = some (fn.body.getD .skip)) (h0 : (loopsOf 0 (fn.body.getD .skip)).length = 0) (hcl : clearC [] (fn.body.getD .skip) = true)
    (hsz : fn.results.size = 1) (hnt : Nat.ble 1 fn.ntmps = true)
    (hC : ∀ a l Q, funA cx0 noLoop fn [.row t (a :: l)] [] [] Q = Rq ((0 + (a :: l).length) * by_ ≤ maxSl) (Q [.own 0 0] [] [.rowb 0 t (a :: l)]))
    (hN : ∀ Q, funA cx0 noLoop fn [.nil] [] [.own t] Q = Q [.own 0 0] [] [.rowb 0 t []])
    (hZ : ∀ Q, funA cx0 noLoop fn [.zrow] [] [] Q = Rq ((0 + 0) * by_ ≤ maxSl) (Q [.own 0 0] [] [.rowb 0 t []]))
    (l : List (den t)) : Meets cx0 f [.row t l] [] (cloneAns t by_ l) := by
  have lo : LoopsOK cx0 [] noLoop 0 (fn.body.getD .skip) := fun p hp => by rw [List.eq_nil_of_length_eq_zero h0] at hp; cases hp
  have form : ∀ x : AV, ∀ l, formB fn [x] [] (cloneAns t by_ l) = true := fun x l => by
    simp only [formB, formS, noSame, sameB, ptrsB, kindsB, cloneAns, isTup, hsz, List.length_cons, List.length_nil, Bool.true_and, Bool.and_true]; exact hnt
  cases l with
  | cons a l =>
    refine fun_meets (cx := cx0) (ws := []) (L := noLoop) cx0OK tok0 hf hb lo hcl (form _ _) fun hpre => ?_
    exact Eq.mpr (hC a l _) ⟨by rw [Nat.zero_add]; exact hpre _ rfl, fun _ h => (nomatch h), rfl, rfl, rfl⟩
  | nil =>
    refine Meets.row0 (args0 := []) (args1 := []) ?_ ?_
    · refine fun_meets (cx := cx0) (ws := [.own t]) (L := noLoop) cx0OK tok0 hf hb lo hcl (form _ _) fun hpre => ?_
      exact Eq.mpr (hN _) ⟨fun _ h => (nomatch h), rfl, rfl, rfl⟩
    · refine fun_meets (cx := cx0) (ws := []) (L := noLoop) cx0OK tok0 hf hb lo hcl (form _ _) fun hpre => ?_
      exact Eq.mpr (hZ _) ⟨by unfold maxSl; omega, fun _ h => (nomatch h), rfl, rfl, rfl⟩
def conCloneAts : Con := fun args hp => match args, hp with
  | [x], [] => (asAttrs x).bind fun a => some (cloneAns .attr 32 a)
  | _, _ => none
def conCloneNds : Con := fun args hp => match args, hp with
  | [x], [] => (asNodes x).bind fun a => some (cloneAns .node 96 a)
  | _, _ => none
def conCloneIts : Con := fun args hp => match args, hp with
  | [x], [] => (asInts x).bind fun a => some (cloneAns .int 8 a)
  | _, _ => none
theorem cloneAts_holds : Holds 61 conCloneAts := by
  intro args hp ans h
  unfold conCloneAts at h
  split at h
  · simp only [Option.bind_eq_some_iff] at h
    obtain ⟨a, hx, h⟩ := h
    injection h with h
    subst h
    exact Meets.weaken (.cons (asAttrs_le hx) .nil) (clone_meets (t := .attr) (by_ := 32) (fn := Try.f61) (by kernel_rfl) (by kernel_rfl) (by kernel_rfl) (by kernel_rfl) (by kernel_rfl) (by kernel_rfl) vcCloneAtsC vcCloneAtsN vcCloneAtsZ a)
  · cases h
theorem cloneNds_holds : Holds 60 conCloneNds := by
  intro args hp ans h
  unfold conCloneNds at h
  split at h
  · simp only [Option.bind_eq_some_iff] at h
    obtain ⟨a, hx, h⟩ := h
    injection h with h
    subst h
    exact Meets.weaken (.cons (asNodes_le hx) .nil) (clone_meets (t := .node) (by_ := 96) (fn := Try.f60) (by kernel_rfl) (by kernel_rfl) (by kernel_rfl) (by kernel_rfl) (by kernel_rfl) (by kernel_rfl) vcCloneNdsC vcCloneNdsN vcCloneNdsZ a)
  · cases h
theorem cloneIts_holds : Holds 93 conCloneIts := by
  intro args hp ans h
  unfold conCloneIts at h
  split at h
  · simp only [Option.bind_eq_some_iff] at h
    obtain ⟨a, hx, h⟩ := h
    injection h with h
    subst h
    exact Meets.weaken (.cons (asInts_le hx) .nil) (clone_meets (t := .int) (by_ := 8) (fn := Try.f93) (by kernel_rfl) (by kernel_rfl) (by kernel_rfl) (by kernel_rfl) (by kernel_rfl) (by kernel_rfl) vcCloneItsC vcCloneItsN vcCloneItsZ a)
  · cases h
end Go.Proofs.Ytmkjjopflncedaa.AX
end
section
namespace Go.Proofs.Ytmkjjopflncedaa.AXP
open Go Go.Proofs.Ytmkjjopflncedaa.AX
mutual
/-- Are lists small enough to be copied? -/
def fitNd : Nd → Prop
  | ⟨_, _, _, a, _, c⟩ => a.length * 32 ≤ maxSl ∧ fitNds c
def fitNds : List Nd → Prop
  | [] => True
  | x :: l => (x :: l).length * 96 ≤ maxSl ∧ fitNd x ∧ fitNds l
end
end Go.Proofs.Ytmkjjopflncedaa.AXP
namespace Go.Proofs.Ytmkjjopflncedaa.AX
open Go AXP
noncomputable def conCopyLt (k : Nat) : Con := fun args hp => match args, hp with
  | [x], [] => (asNodes x).bind fun a => some { pre := some (szNds a < k ∧ fitNds a), res := .own 0 0, extra := [.rowb 0 .node a] }
  | _, _ => none
noncomputable def cxCopy (k : Nat) : Cx := cxT (tabLook [(36, conCopyLt k), (60, conCloneNds), (61, conCloneAts)])
def keepCopy : List (Tmp × Want) := [(3, .own .node), (8, .as), (9, .as)]
def leftCopy : List (Tmp × Want) := [(3, .own .node)]
noncomputable def sumCopy (k : Nat) (vs : List AV) (bs : List Blk) (K : Ex → List AV → List Blk → Prop) : Prop :=
  match vs, bs with
  | [.own 0 0, .int .i64 m, .int .i64 i], [.rowb 0 .node a] => Rq (m = a.length ∧ i = 0 ∧ a.length ≤ maxSl ∧ szNds a < k + 1 ∧ fitNds a) (K (.exit 0) [.own 0 0] [.rowb 0 .node a])
  | _, _ => False
end Go.Proofs.Ytmkjjopflncedaa.AX
end
section
namespace Go.Proofs.Ytmkjjopflncedaa.AX
open Go AXP
set_option maxRecDepth 100000
theorem vcCopy (k : Nat) (a : List Nd) (i m : Int) (K : Ex → List AV → List Blk → Prop) : (bodyA (cxCopy k) noLoop Try.f36.ntmps (blkOf Try.f36 0) (bodyOf Try.f36 0) keepCopy leftCopy K [.own 0 0, .int .i64 m, .int .i64 i] [.rowb 0 .node a]) = (
Br (decide (i < m))
  (Rq ((0 : Int) ≤ i ∧ i < (↑a.length : Int))
    (Rq ((rd Ty.node a i).4.length * (32 : Nat) ≤ maxSl)
      (Rq ((0 : Int) ≤ i ∧ i < (↑a.length : Int))
        (Rq
          ((0 : Int) ≤ i ∧
            i <
              (↑(a.set i.toNat
                      (Nd.mk (rd Ty.node a i).1 (rd Ty.node a i).2 (rd Ty.node a i).3 (rd Ty.node a i).4
                        (rd Ty.node a i).5 (rd Ty.node a i).6)).length :
                Int))
          (Rq
            (szNds
                  (rd Ty.node
                      (a.set i.toNat
                        (Nd.mk (rd Ty.node a i).kind (rd Ty.node a i).space (rd Ty.node a i).name (rd Ty.node a i).attrs
                          (rd Ty.node a i).text (rd Ty.node a i).kids))
                      i).6 <
                k ∧
              fitNds
                (rd Ty.node
                    (a.set i.toNat
                      (Nd.mk (rd Ty.node a i).kind (rd Ty.node a i).space (rd Ty.node a i).name (rd Ty.node a i).attrs
                        (rd Ty.node a i).text (rd Ty.node a i).kids))
                    i).6)
            (Rq
              ((0 : Int) ≤ i ∧
                i <
                  (↑(a.set i.toNat
                          (Nd.mk (rd Ty.node a i).1 (rd Ty.node a i).2 (rd Ty.node a i).3 (rd Ty.node a i).4
                            (rd Ty.node a i).5 (rd Ty.node a i).6)).length :
                    Int))
              (K Ex.norm
                [AV.own (0 : Nat) (0 : Nat), AV.int IntKind.i64 m,
                  AV.int IntKind.i64 (IntKind.i64.wrap (i + (1 : Int)))]
                [Blk.rowb (0 : Nat) Ty.node
                    ((a.set i.toNat
                          (Nd.mk (rd Ty.node a i).1 (rd Ty.node a i).2 (rd Ty.node a i).3 (rd Ty.node a i).4
                            (rd Ty.node a i).5 (rd Ty.node a i).6)).set
                      i.toNat
                      (Nd.mk
                        (rd Ty.node
                            (a.set i.toNat
                              (Nd.mk (rd Ty.node a i).kind (rd Ty.node a i).space (rd Ty.node a i).name
                                (rd Ty.node a i).attrs (rd Ty.node a i).text (rd Ty.node a i).kids))
                            i).1
                        (rd Ty.node
                            (a.set i.toNat
                              (Nd.mk (rd Ty.node a i).kind (rd Ty.node a i).space (rd Ty.node a i).name
                                (rd Ty.node a i).attrs (rd Ty.node a i).text (rd Ty.node a i).kids))
                            i).2
                        (rd Ty.node
                            (a.set i.toNat
                              (Nd.mk (rd Ty.node a i).kind (rd Ty.node a i).space (rd Ty.node a i).name
                                (rd Ty.node a i).attrs (rd Ty.node a i).text (rd Ty.node a i).kids))
                            i).3
                        (rd Ty.node
                            (a.set i.toNat
                              (Nd.mk (rd Ty.node a i).kind (rd Ty.node a i).space (rd Ty.node a i).name
                                (rd Ty.node a i).attrs (rd Ty.node a i).text (rd Ty.node a i).kids))
                            i).4
                        (rd Ty.node
                            (a.set i.toNat
                              (Nd.mk (rd Ty.node a i).kind (rd Ty.node a i).space (rd Ty.node a i).name
                                (rd Ty.node a i).attrs (rd Ty.node a i).text (rd Ty.node a i).kids))
                            i).5
                        (rd Ty.node
                            (a.set i.toNat
                              (Nd.mk (rd Ty.node a i).kind (rd Ty.node a i).space (rd Ty.node a i).name
                                (rd Ty.node a i).attrs (rd Ty.node a i).text (rd Ty.node a i).kids))
                            i).6))])))))))
  (K (Ex.exit (0 : Nat)) [AV.own (0 : Nat) (0 : Nat)] [Blk.rowb (0 : Nat) Ty.node a])) := by kernel_rfl
theorem vcCopyF (k : Nat) (a : List Nd) (Q : List AV → List Blk → List Blk → Prop) : (funA (cxCopy k) (fun _ s K => loopA Try.f36.ntmps keepCopy leftCopy (sumCopy k) s K) Try.f36 [.row .node a] [] [] Q) = (
Rq (a.length * (96 : Nat) ≤ maxSl)
  (Gv (a.length ≤ maxSl)
    (Rq
      ((↑a.length : Int) = (↑a.length : Int) ∧
        (0 : Int) = (0 : Int) ∧ a.length ≤ maxSl ∧ szNds a < k + (1 : Nat) ∧ fitNds a)
      (Q [AV.own (0 : Nat) (0 : Nat)] [] [Blk.rowb (0 : Nat) Ty.node a])))) := by kernel_rfl
end Go.Proofs.Ytmkjjopflncedaa.AX
end
section
namespace Go.Proofs.Ytmkjjopflncedaa.AX
open Go AXP
set_option maxRecDepth 100000
theorem fit_len {a : List Nd} (h : fitNds a) : a.length * 96 ≤ maxSl := by
  cases a with
  | nil => simp
  | cons x l => rw [fitNds] at h; exact h.1
theorem fit_at : ∀ {a : List Nd} {i : Nat} (hi : i < a.length), fitNds a → fitNd a[i]
  | x :: l, 0, _, h => by rw [fitNds] at h; exact h.2.1
  | x :: l, i + 1, hi, h => by rw [fitNds] at h; exact fit_at (a := l) (by simpa using hi) h.2.2
theorem fit_eq (n : Nd) : fitNd n ↔ n.4.length * 32 ≤ maxSl ∧ fitNds n.6 := by cases n; rw [fitNd]
theorem rd_nd {a : List Nd} {i : Nat} (h : i < a.length) : rd .node a (i : Int) = a[i] := by
  have := rd_eq (t := .node) (xs := a) (i := (i : Int)) (by rw [Int.toNat_natCast]; exact h)
  exact this.trans (by rfl)
theorem copy_rounds {k : Nat} {a : List Nd} {K : Ex → List AV → List Blk → Prop} (hm : a.length ≤ maxSl) (hk : szNds a < k + 1) (hf : fitNds a) (h1 : K (.exit 0) [.own 0 0] [.rowb 0 .node a]) : ∀ (r i : Nat), i + r = a.length →
    roundsA (cxCopy k) noLoop Try.f36.ntmps (blkOf Try.f36 0) (bodyOf Try.f36 0) keepCopy leftCopy K (r + 1) [.own 0 0, .int .i64 a.length, .int .i64 i] [.rowb 0 .node a] := by
  intro r
  induction r with
  | zero =>
    intro i hi
    rw [roundsA]
    refine Eq.mpr (vcCopy k a i a.length _) ⟨fun h => ?_, fun _ => h1⟩
    simp at h; omega
  | succ r ih =>
    intro i hi
    have hlt : i < a.length := by omega
    have ra := rd_nd hlt
    have e1 := nd_eta (rd .node a (i : Int))
    have e2 : a.set (i : Int).toNat (rd .node a (i : Int)) = a := by rw [ra]; simp
    have hw : IntKind.i64.wrap ((i : Int) + 1) = ((i + 1 : Nat) : Int) := by
      rw [wrap_id] <;> unfold maxSl at hm <;> omega
    have hfi := (fit_eq _).1 (fit_at hlt hf)
    have hb : (0 : Int) ≤ i ∧ (i : Int) < (a.length : Int) := ⟨by omega, by omega⟩
    rw [roundsA]
    refine Eq.mpr (vcCopy k a i a.length _) ⟨fun h => ?_, fun h => ?_⟩
    · rw [e1, e2, e1, e2, ra]
      refine ⟨hb, ⟨hfi.1, ⟨hb, ⟨hb, ⟨⟨Nat.lt_of_lt_of_le (szNds_kids hlt) (Nat.le_of_lt_succ hk), hfi.2⟩, ⟨hb, ?_⟩⟩⟩⟩⟩⟩
      rw [hw]
      exact ih (i + 1) (by omega)
    · simp at h; omega
theorem copy_step {k : Nat} (h : Holds 36 (conCopyLt k)) : Holds 36 (conCopyLt (k + 1)) := by
  have tok : TOK (cxCopy k) := tab_ok (fun p hp => by
    cases hp with
    | head => exact h
    | tail _ hp => cases hp with
      | head => exact cloneNds_holds
      | tail _ hp => cases hp with
        | head => exact cloneAts_holds
        | tail _ hp => cases hp) (fun p hp => by
    cases hp with
    | head => exact enter_of (by kernel_rfl)
    | tail _ hp => cases hp with
      | head => exact enter_of (by kernel_rfl)
      | tail _ hp => cases hp with
        | head => exact enter_of (by kernel_rfl)
        | tail _ hp => cases hp)
  intro args hp ans hc
  unfold conCopyLt at hc
  split at hc
  · simp only [Option.bind_eq_some_iff] at hc
    obtain ⟨a, hx, hc⟩ := hc
    injection hc with hc
    subst hc
    refine Meets.weaken (.cons (asNodes_le hx) .nil) ?_
    refine meets_any (T := fun _ _ _ => none) (show Meets (cxCopy k) _ _ _ _ from ?_)
    refine fun_meets (fn := Try.f36) (c := Try.f36.body.getD .skip) (ws := []) (L := fun _ s K => loopA Try.f36.ntmps keepCopy leftCopy (sumCopy k) s K) (cxOK _) tok (by kernel_rfl) (by kernel_rfl) (loops_ok (fn := Try.f36) (by kernel_rfl) 1 (by kernel_rfl) fun i hi s K hL => ?_) (by kernel_rfl) (by kernel_rfl) fun hpre => ?_
    · have : i = 0 := by omega
      subst this
      refine loop_snd (L := noLoop) (cxOK _) tok (b := blkOf Try.f36 0) (fun p hp => ?_) (by kernel_rfl) (fun vs bs K hs => ?_) hL
      · have : (loopsOf (blkOf Try.f36 0) (bodyOf Try.f36 0)).length = 0 := by kernel_rfl
        rw [List.eq_nil_of_length_eq_zero this] at hp; cases hp
      · unfold sumCopy at hs
        split at hs
        · obtain ⟨⟨rfl, rfl, h1, h2, h3⟩, h4⟩ := hs
          exact ⟨_, copy_rounds h1 h2 h3 h4 _ 0 (Nat.zero_add _)⟩
        · exact hs.elim
    · obtain ⟨p1, p2⟩ := hpre _ rfl
      exact Eq.mpr (vcCopyF k a _) ⟨fit_len p2, ⟨fun h1 => ⟨⟨rfl, rfl, h1, p1, p2⟩, fun _ h => (nomatch h), rfl, rfl, rfl⟩⟩⟩
  · cases hc
theorem copy_lt : ∀ k, Holds 36 (conCopyLt k)
  | 0 => by
    intro args hp ans hc
    unfold conCopyLt at hc
    split at hc
    · simp only [Option.bind_eq_some_iff] at hc
      obtain ⟨a, hx, hc⟩ := hc
      injection hc with hc
      subst hc
      intro F I w vals _ _ hpre
      exact absurd (hpre _ rfl).1 (Nat.not_lt_zero _)
    · cases hc
  | k + 1 => copy_step (copy_lt k)
def conCopy : Con := fun args hp => match args, hp with
  | [x], [] => (asNodes x).bind fun a => some { pre := some (fitNds a), res := .own 0 0, extra := [.rowb 0 .node a] }
  | _, _ => none
theorem copy_holds : Holds 36 conCopy := by
  intro args hp ans hc
  unfold conCopy at hc
  split at hc
  · simp only [Option.bind_eq_some_iff] at hc
    obtain ⟨a, hx, hc⟩ := hc
    injection hc with hc
    subst hc
    intro F I w vals hH hv hpre
    exact copy_lt (szNds a + 1) _ [] { pre := some (szNds a < szNds a + 1 ∧ fitNds a), res := .own 0 0, extra := [.rowb 0 .node a] } (by simp only [conCopyLt, hx, Option.bind_some]) F I w vals hH hv (fun p hp => by injection hp with hp; subst hp; exact ⟨Nat.lt_succ_self _, hpre _ rfl⟩)
  · cases hc
end Go.Proofs.Ytmkjjopflncedaa.AX
end
section
namespace Go.Proofs.Ytmkjjopflncedaa.AX
open Go AXP
noncomputable def cxOne : Cx := cxT (tabLook [(36, conCopy), (93, conCloneIts)])
end Go.Proofs.Ytmkjjopflncedaa.AX
end
section
namespace Go.Proofs.Ytmkjjopflncedaa.AX
open Go AXP
set_option maxRecDepth 100000
theorem vcOneCopied (x : Ed) (Q : List AV → List Blk → List Blk → Prop) : (funA cxOne noLoop Try.f69 [.agg (editL x)] [] [.as, .row .int] Q) = (
Rq
  (fitNds
    [Nd.mk x.old.1 x.old.2 x.old.3 x.old.4 x.old.5 x.old.6, Nd.mk x.new.1 x.new.2 x.new.3 x.new.4 x.new.5 x.new.6])
  (Rq
    ((0 : Int) ≤ (0 : Int) ∧
      (0 : Int) <
        (↑[Nd.mk x.old.1 x.old.2 x.old.3 x.old.4 x.old.5 x.old.6,
                Nd.mk x.new.1 x.new.2 x.new.3 x.new.4 x.new.5 x.new.6].length :
          Int))
    (Rq
      ((0 : Int) ≤ (1 : Int) ∧
        (1 : Int) <
          (↑[Nd.mk x.old.1 x.old.2 x.old.3 x.old.4 x.old.5 x.old.6,
                  Nd.mk x.new.1 x.new.2 x.new.3 x.new.4 x.new.5 x.new.6].length :
            Int))
      (Rq (x.2.length * (8 : Nat) ≤ maxSl)
        (Q
          [AV.agg
              [AV.int IntKind.i64 x.1, AV.row Ty.int x.2, AV.int IntKind.i64 x.old.1, AV.int IntKind.i64 x.old.2,
                AV.str x.old.3, AV.row Ty.attr x.old.4, AV.str x.old.5, AV.row Ty.node x.old.6,
                AV.int IntKind.i64 x.new.1, AV.int IntKind.i64 x.new.2, AV.str x.new.3, AV.row Ty.attr x.new.4,
                AV.str x.new.5, AV.row Ty.node x.new.6]]
          [] []))))) := by kernel_rfl
end Go.Proofs.Ytmkjjopflncedaa.AX
end
section
namespace Go.Proofs.Ytmkjjopflncedaa.AX
open Go AXP
set_option maxRecDepth 100000
theorem toEd_le {x : List AV} {n : Ed} (h : toEd x = some n) : AVle (.agg x) (.agg (editL n)) := fun w O I v hv => by
  obtain ⟨cs, rfl, hall⟩ := hv
  exact ⟨cs, rfl, toEd_R hall h⟩
def fitEd (x : Ed) : Prop := fitNds [x.old, x.new] ∧ x.way.length * 8 ≤ maxSl
def conOneCopied : Con := fun args hp => match args, hp with
  | [.agg x], [] => (toEd x).bind fun a => some { pre := some (fitEd a), res := .agg (editL a) }
  | _, _ => none
theorem tokOne : TOK cxOne := tab_ok (fun p hp => by
    cases hp with
    | head => exact copy_holds
    | tail _ hp => cases hp with
      | head => exact cloneIts_holds
      | tail _ hp => cases hp) (fun p hp => by
    cases hp with
    | head => exact enter_of (by kernel_rfl)
    | tail _ hp => cases hp with
      | head => exact enter_of (by kernel_rfl)
      | tail _ hp => cases hp)
theorem oneCopied_holds : Holds 69 conOneCopied := by
  intro args hp ans hc
  unfold conOneCopied at hc
  split at hc
  · simp only [Option.bind_eq_some_iff] at hc
    obtain ⟨a, hx, hc⟩ := hc
    injection hc with hc
    subst hc
    refine Meets.weaken (.cons (toEd_le hx) .nil) ?_
    refine meets_any (T := fun _ _ _ => none) (show Meets cxOne _ _ _ _ from ?_)
    refine fun_meets (fn := Try.f69) (c := Try.f69.body.getD .skip) (ws := [.as, .row .int]) (L := noLoop) (cxOK _) tokOne (by kernel_rfl) (by kernel_rfl) (fun p hp => ?_) (by kernel_rfl) (by kernel_rfl) fun hpre => ?_
    · have : (loopsOf 0 (Try.f69.body.getD .skip)).length = 0 := by kernel_rfl
      rw [List.eq_nil_of_length_eq_zero this] at hp; cases hp
    · obtain ⟨p1, p2⟩ := hpre _ rfl
      refine Eq.mpr (vcOneCopied a _) ⟨?_, ⟨by decide, by simp⟩, ⟨by decide, by simp⟩, p2, fun _ h => (nomatch h), rfl, rfl, rfl⟩
      rw [nd_eta a.old, nd_eta a.new]; exact p1
  · cases hc
end Go.Proofs.Ytmkjjopflncedaa.AX
end
section
namespace Go.Proofs.Ytmkjjopflncedaa.AX
open Go AXP
noncomputable def cxTurned : Cx := cxT (tabLook [(69, conOneCopied)])
end Go.Proofs.Ytmkjjopflncedaa.AX
end
section
namespace Go.Proofs.Ytmkjjopflncedaa.AX
open Go AXP
set_option maxRecDepth 100000
theorem vcTurned (x : Ed) (Q : List AV → List Blk → List Blk → Prop) : (funA cxTurned noLoop Try.f42 [.agg (editL x)] [] [] Q) = (
Rq
  (fitNds
      [Nd.mk x.old.1 x.old.2 x.old.3 x.old.4 x.old.5 x.old.6, Nd.mk x.new.1 x.new.2 x.new.3 x.new.4 x.new.5 x.new.6] ∧
    x.2.length * (8 : Nat) ≤ maxSl)
  (Br (x.1 == (1 : Int))
    (Q
      [AV.agg
          [AV.int IntKind.i64 (2 : Int), AV.row Ty.int x.2, AV.int IntKind.i64 x.new.1, AV.int IntKind.i64 x.new.2,
            AV.str x.new.3, AV.row Ty.attr x.new.4, AV.str x.new.5, AV.row Ty.node x.new.6, AV.int IntKind.i64 x.old.1,
            AV.int IntKind.i64 x.old.2, AV.str x.old.3, AV.row Ty.attr x.old.4, AV.str x.old.5, AV.row Ty.node x.old.6]]
      [] [])
    (Br (x.1 == (2 : Int))
      (Q
        [AV.agg
            [AV.int IntKind.i64 (1 : Int), AV.row Ty.int x.2, AV.int IntKind.i64 x.new.1, AV.int IntKind.i64 x.new.2,
              AV.str x.new.3, AV.row Ty.attr x.new.4, AV.str x.new.5, AV.row Ty.node x.new.6,
              AV.int IntKind.i64 x.old.1, AV.int IntKind.i64 x.old.2, AV.str x.old.3, AV.row Ty.attr x.old.4,
              AV.str x.old.5, AV.row Ty.node x.old.6]]
        [] [])
      (Q
        [AV.agg
            [AV.int IntKind.i64 x.1, AV.row Ty.int x.2, AV.int IntKind.i64 x.new.1, AV.int IntKind.i64 x.new.2,
              AV.str x.new.3, AV.row Ty.attr x.new.4, AV.str x.new.5, AV.row Ty.node x.new.6,
              AV.int IntKind.i64 x.old.1, AV.int IntKind.i64 x.old.2, AV.str x.old.3, AV.row Ty.attr x.old.4,
              AV.str x.old.5, AV.row Ty.node x.old.6]]
        [] [])))) := by kernel_rfl
end Go.Proofs.Ytmkjjopflncedaa.AX
end
section
namespace Go.Proofs.Ytmkjjopflncedaa.AXP
open Go Go.Proofs.Ytmkjjopflncedaa.AX
/-- An edit, turned. -/
def turnEd (x : Ed) : Ed := ⟨if x.what == 1 then 2 else if x.what == 2 then 1 else x.what, x.way, x.new, x.old⟩
end Go.Proofs.Ytmkjjopflncedaa.AXP
namespace Go.Proofs.Ytmkjjopflncedaa.AX
open Go AXP
set_option maxRecDepth 100000
def conTurned : Con := fun args hp => match args, hp with
  | [.agg x], [] => (toEd x).bind fun a => some { pre := some (fitEd a), res := .agg (editL (turnEd a)) }
  | _, _ => none
theorem turned_holds : Holds 42 conTurned := by
  have tok : TOK cxTurned := tab_ok (fun p hp => by
    cases hp with
    | head => exact oneCopied_holds
    | tail _ hp => cases hp) (fun p hp => by
    cases hp with
    | head => exact enter_of (by kernel_rfl)
    | tail _ hp => cases hp)
  intro args hp ans hc
  unfold conTurned at hc
  split at hc
  · simp only [Option.bind_eq_some_iff] at hc
    obtain ⟨a, hx, hc⟩ := hc
    injection hc with hc
    subst hc
    refine Meets.weaken (.cons (toEd_le hx) .nil) ?_
    refine meets_any (T := fun _ _ _ => none) (show Meets cxTurned _ _ _ _ from ?_)
    refine fun_meets (fn := Try.f42) (c := Try.f42.body.getD .skip) (ws := []) (L := noLoop) (cxOK _) tok (by kernel_rfl) (by kernel_rfl) (fun p hp => ?_) (by kernel_rfl) (by kernel_rfl) fun hpre => ?_
    · have : (loopsOf 0 (Try.f42.body.getD .skip)).length = 0 := by kernel_rfl
      rw [List.eq_nil_of_length_eq_zero this] at hp; cases hp
    · obtain ⟨p1, p2⟩ := hpre _ rfl
      refine Eq.mpr (vcTurned a _) ⟨⟨?_, p2⟩, ⟨fun h1 => ⟨fun _ h => (nomatch h), ?_, rfl, rfl⟩, fun h1 => ⟨fun h2 => ⟨fun _ h => (nomatch h), ?_, rfl, rfl⟩, fun h2 => ⟨fun _ h => (nomatch h), ?_, rfl, rfl⟩⟩⟩⟩
      · rw [nd_eta a.old, nd_eta a.new]; exact p1
      all_goals simp only [compsOf, turnEd, editL, nodeL, *, if_true, Bool.false_eq_true, if_false, List.cons_append, List.nil_append]
  · cases hc
end Go.Proofs.Ytmkjjopflncedaa.AX
end
section
namespace Go.Proofs.Ytmkjjopflncedaa.AXP
open Go Go.Proofs.Ytmkjjopflncedaa.AX
def fitEds (s : List Ed) : Prop := ∀ x ∈ s, fitEd x
end Go.Proofs.Ytmkjjopflncedaa.AXP
namespace Go.Proofs.Ytmkjjopflncedaa.AX
open Go AXP
noncomputable def cxOnes : Cx := cxT (tabLook [(69, conOneCopied)])
def lsOnes : LS where
  keep := [(3, .own .one), (6, .as), (7, .as), (8, .as)]
  left := [(3, .own .one)]
  sum := fun vs bs K => match vs, bs with
    | [.own 0 0, .row .edit s, .int .i64 m, .int .i64 i], [.rowb 0 .one l] => Rq (m = s.length ∧ i = 0 ∧ l.length = 0 ∧ s.length * 224 ≤ maxSl ∧ fitEds s) (K (.exit 0) [.own 0 0] [.rowb 0 .one s])
    | _, _ => False
def lsEdits : LS where
  keep := [(3, .own .edit), (6, .as), (7, .as), (8, .as)]
  left := [(3, .own .edit)]
  sum := fun vs bs K => match vs, bs with
    | [.own 0 0, .row .one s, .int .i64 m, .int .i64 i], [.rowb 0 .edit l] => Rq (m = s.length ∧ i = 0 ∧ l.length = 0 ∧ s.length * 224 ≤ maxSl) (K (.exit 0) [.own 0 0] [.rowb 0 .edit s])
    | _, _ => False
def lsRevOne : LS where
  keep := [(0, .as), (2, .as), (3, .as)]
  left := [(0, .as)]
  sum := fun vs bs K => match vs, bs with
    | [.own 0 0, .int .i64 i, .int .i64 j], [.rowb 0 .one xs] => Rq (i = 0 ∧ j = IntKind.i64.wrap ((xs.length : Int) - 1) ∧ xs.length ≤ maxSl) (K (.exit 0) [.own 0 0] [.rowb 0 .one xs.reverse])
    | _, _ => False
end Go.Proofs.Ytmkjjopflncedaa.AX
end
section
namespace Go.Proofs.Ytmkjjopflncedaa.AX
open Go AXP
set_option maxRecDepth 100000
theorem vcOnesB (s l : List Ed) (i m : Int) (K : Ex → List AV → List Blk → Prop) : (bodyA cxOnes (LL Try.f40 [lsOnes]) Try.f40.ntmps (loopAt Try.f40 0).1 (loopAt Try.f40 0).2 lsOnes.keep lsOnes.left K [.own 0 0, .row .edit s, .int .i64 m, .int .i64 i] [.rowb 0 .one l]) = (
Br (decide (i < m))
  (Rq ((0 : Int) ≤ i ∧ i < (↑s.length : Int))
    (Rq
      (fitNds
          [Nd.mk (rd Ty.edit s i).old.1 (rd Ty.edit s i).old.2 (rd Ty.edit s i).old.3 (rd Ty.edit s i).old.4
              (rd Ty.edit s i).old.5 (rd Ty.edit s i).old.6,
            Nd.mk (rd Ty.edit s i).new.1 (rd Ty.edit s i).new.2 (rd Ty.edit s i).new.3 (rd Ty.edit s i).new.4
              (rd Ty.edit s i).new.5 (rd Ty.edit s i).new.6] ∧
        (rd Ty.edit s i).2.length * (8 : Nat) ≤ maxSl)
      (Rq
        ((l.length +
              [Ed.mk (rd Ty.edit s i).1 (rd Ty.edit s i).2
                    (Nd.mk (rd Ty.edit s i).old.1 (rd Ty.edit s i).old.2 (rd Ty.edit s i).old.3 (rd Ty.edit s i).old.4
                      (rd Ty.edit s i).old.5 (rd Ty.edit s i).old.6)
                    (Nd.mk (rd Ty.edit s i).new.1 (rd Ty.edit s i).new.2 (rd Ty.edit s i).new.3 (rd Ty.edit s i).new.4
                      (rd Ty.edit s i).new.5 (rd Ty.edit s i).new.6)].length) *
            (224 : Nat) ≤
          maxSl)
        (K Ex.norm
          [AV.own (0 : Nat) (0 : Nat), AV.row Ty.edit s, AV.int IntKind.i64 m,
            AV.int IntKind.i64 (IntKind.i64.wrap (i + (1 : Int)))]
          [Blk.rowb (0 : Nat) Ty.one
              (l ++
                [Ed.mk (rd Ty.edit s i).1 (rd Ty.edit s i).2
                    (Nd.mk (rd Ty.edit s i).old.1 (rd Ty.edit s i).old.2 (rd Ty.edit s i).old.3 (rd Ty.edit s i).old.4
                      (rd Ty.edit s i).old.5 (rd Ty.edit s i).old.6)
                    (Nd.mk (rd Ty.edit s i).new.1 (rd Ty.edit s i).new.2 (rd Ty.edit s i).new.3 (rd Ty.edit s i).new.4
                      (rd Ty.edit s i).new.5 (rd Ty.edit s i).new.6)])]))))
  (K (Ex.exit (0 : Nat)) [AV.own (0 : Nat) (0 : Nat)] [Blk.rowb (0 : Nat) Ty.one l])) := by kernel_rfl
theorem vcOnesF (s : List Ed) (Q : List AV → List Blk → List Blk → Prop) : (funA cxOnes (LL Try.f40 [lsOnes]) Try.f40 [.row .edit s] [] [] Q) = (
Gv (s.length ≤ maxSl)
  (Rq
    ((↑s.length : Int) = (↑s.length : Int) ∧
      (0 : Int) = (0 : Int) ∧ (0 : Nat) = (0 : Nat) ∧ s.length * (224 : Nat) ≤ maxSl ∧ fitEds s)
    (Q [AV.own (0 : Nat) (0 : Nat)] [] [Blk.rowb (0 : Nat) Ty.one s]))) := by kernel_rfl
theorem vcEditsB (s l : List Ed) (i m : Int) (K : Ex → List AV → List Blk → Prop) : (bodyA cx0 (LL Try.f43 [lsEdits]) Try.f43.ntmps (loopAt Try.f43 0).1 (loopAt Try.f43 0).2 lsEdits.keep lsEdits.left K [.own 0 0, .row .one s, .int .i64 m, .int .i64 i] [.rowb 0 .edit l]) = (
Br (decide (i < m))
  (Rq ((0 : Int) ≤ i ∧ i < (↑s.length : Int))
    (Rq
      ((l.length +
            [Ed.mk (rd Ty.one s i).1 (rd Ty.one s i).2
                  (Nd.mk (rd Ty.one s i).old.1 (rd Ty.one s i).old.2 (rd Ty.one s i).old.3 (rd Ty.one s i).old.4
                    (rd Ty.one s i).old.5 (rd Ty.one s i).old.6)
                  (Nd.mk (rd Ty.one s i).new.1 (rd Ty.one s i).new.2 (rd Ty.one s i).new.3 (rd Ty.one s i).new.4
                    (rd Ty.one s i).new.5 (rd Ty.one s i).new.6)].length) *
          (224 : Nat) ≤
        maxSl)
      (K Ex.norm
        [AV.own (0 : Nat) (0 : Nat), AV.row Ty.one s, AV.int IntKind.i64 m,
          AV.int IntKind.i64 (IntKind.i64.wrap (i + (1 : Int)))]
        [Blk.rowb (0 : Nat) Ty.edit
            (l ++
              [Ed.mk (rd Ty.one s i).1 (rd Ty.one s i).2
                  (Nd.mk (rd Ty.one s i).old.1 (rd Ty.one s i).old.2 (rd Ty.one s i).old.3 (rd Ty.one s i).old.4
                    (rd Ty.one s i).old.5 (rd Ty.one s i).old.6)
                  (Nd.mk (rd Ty.one s i).new.1 (rd Ty.one s i).new.2 (rd Ty.one s i).new.3 (rd Ty.one s i).new.4
                    (rd Ty.one s i).new.5 (rd Ty.one s i).new.6)])])))
  (K (Ex.exit (0 : Nat)) [AV.own (0 : Nat) (0 : Nat)] [Blk.rowb (0 : Nat) Ty.edit l])) := by kernel_rfl
theorem vcEditsF (s : List Ed) (Q : List AV → List Blk → List Blk → Prop) : (funA cx0 (LL Try.f43 [lsEdits]) Try.f43 [.row .one s] [] [] Q) = (
Gv (s.length ≤ maxSl)
  (Rq
    ((↑s.length : Int) = (↑s.length : Int) ∧
      (0 : Int) = (0 : Int) ∧ (0 : Nat) = (0 : Nat) ∧ s.length * (224 : Nat) ≤ maxSl)
    (Q [AV.own (0 : Nat) (0 : Nat)] [] [Blk.rowb (0 : Nat) Ty.edit s]))) := by kernel_rfl
theorem vcRevOneB (xs : List Ed) (i j : Int) (K : Ex → List AV → List Blk → Prop) : (bodyA cx0 (LL Try.f41 [lsRevOne]) Try.f41.ntmps (loopAt Try.f41 0).1 (loopAt Try.f41 0).2 lsRevOne.keep lsRevOne.left K [.own 0 0, .int .i64 i, .int .i64 j] [.rowb 0 .one xs]) = (
Br (decide (i < j))
  (Rq ((0 : Int) ≤ j ∧ j < (↑xs.length : Int))
    (Rq ((0 : Int) ≤ i ∧ i < (↑xs.length : Int))
      (Rq ((0 : Int) ≤ i ∧ i < (↑xs.length : Int))
        (Rq
          ((0 : Int) ≤ j ∧
            j <
              (↑(xs.set i.toNat
                      (Ed.mk (rd Ty.one xs j).1 (rd Ty.one xs j).2
                        (Nd.mk (rd Ty.one xs j).old.1 (rd Ty.one xs j).old.2 (rd Ty.one xs j).old.3
                          (rd Ty.one xs j).old.4 (rd Ty.one xs j).old.5 (rd Ty.one xs j).old.6)
                        (Nd.mk (rd Ty.one xs j).new.1 (rd Ty.one xs j).new.2 (rd Ty.one xs j).new.3
                          (rd Ty.one xs j).new.4 (rd Ty.one xs j).new.5 (rd Ty.one xs j).new.6))).length :
                Int))
          (K Ex.norm
            [AV.own (0 : Nat) (0 : Nat), AV.int IntKind.i64 (IntKind.i64.wrap (i + (1 : Int))),
              AV.int IntKind.i64 (IntKind.i64.wrap (j - (1 : Int)))]
            [Blk.rowb (0 : Nat) Ty.one
                ((xs.set i.toNat
                      (Ed.mk (rd Ty.one xs j).1 (rd Ty.one xs j).2
                        (Nd.mk (rd Ty.one xs j).old.1 (rd Ty.one xs j).old.2 (rd Ty.one xs j).old.3
                          (rd Ty.one xs j).old.4 (rd Ty.one xs j).old.5 (rd Ty.one xs j).old.6)
                        (Nd.mk (rd Ty.one xs j).new.1 (rd Ty.one xs j).new.2 (rd Ty.one xs j).new.3
                          (rd Ty.one xs j).new.4 (rd Ty.one xs j).new.5 (rd Ty.one xs j).new.6))).set
                  j.toNat
                  (Ed.mk (rd Ty.one xs i).1 (rd Ty.one xs i).2
                    (Nd.mk (rd Ty.one xs i).old.1 (rd Ty.one xs i).old.2 (rd Ty.one xs i).old.3 (rd Ty.one xs i).old.4
                      (rd Ty.one xs i).old.5 (rd Ty.one xs i).old.6)
                    (Nd.mk (rd Ty.one xs i).new.1 (rd Ty.one xs i).new.2 (rd Ty.one xs i).new.3 (rd Ty.one xs i).new.4
                      (rd Ty.one xs i).new.5 (rd Ty.one xs i).new.6)))])))))
  (K (Ex.exit (0 : Nat)) [AV.own (0 : Nat) (0 : Nat)] [Blk.rowb (0 : Nat) Ty.one xs])) := by kernel_rfl
theorem vcRevOneF (xs : List Ed) (Q : List AV → List Blk → List Blk → Prop) : (funS cx0 (LL Try.f41 [lsRevOne]) Try.f41 [.own 0 0] [.rowb 0 .one xs] [.slot 0] [0] [] Q) = (
Gv (xs.length ≤ maxSl)
  (Rq
    ((0 : Int) = (0 : Int) ∧
      IntKind.i64.wrap ((↑xs.length : Int) - (1 : Int)) = IntKind.i64.wrap ((↑xs.length : Int) - (1 : Int)) ∧
        xs.length ≤ maxSl)
    (Q [] [Blk.rowb (0 : Nat) Ty.one xs.reverse] []))) := by kernel_rfl
end Go.Proofs.Ytmkjjopflncedaa.AX
end
section
namespace Go.Proofs.Ytmkjjopflncedaa.AX
open Go AXP
set_option maxRecDepth 100000
theorem ed_eta (x : Ed) : Ed.mk x.1 x.2 (Nd.mk x.old.1 x.old.2 x.old.3 x.old.4 x.old.5 x.old.6) (Nd.mk x.new.1 x.new.2 x.new.3 x.new.4 x.new.5 x.new.6) = x := by
  obtain ⟨_, _, ⟨⟩, ⟨⟩⟩ := x; rfl
theorem rd_ed {a : List Ed} {i : Nat} (h : i < a.length) : rd .edit a (i : Int) = a[i] := rd_get (t := .edit) h
theorem rd_one {a : List Ed} {i : Nat} (h : i < a.length) : rd .one a (i : Int) = a[i] := rd_get (t := .one) h
theorem take_snoc {α : Type} {s : List α} {i : Nat} (h : i < s.length) : s.take i ++ [s[i]] = s.take (i + 1) := List.take_append_getElem h
def conOnes : Con := conP [.row .edit] fun (s : List Ed) => { pre := some (s.length * 224 ≤ maxSl ∧ fitEds s), res := .own 0 0, extra := [.rowb 0 .one s] }
theorem tokOnes : TOK cxOnes := AllH.tok (.cons oneCopied_holds (by kernel_rfl) .nil)
theorem ones_sum : SumOK cxOnes (LL Try.f40 [lsOnes]) Try.f40.ntmps (loopAt Try.f40 0).1 (loopAt Try.f40 0).2 lsOnes := by
  intro vs bs K hs
  unfold lsOnes at hs
  simp only at hs
  split at hs
  case h_2 => exact hs.elim
  rename_i s m i l
  obtain ⟨⟨rfl, rfl, hl, h1, h2⟩, h3⟩ := hs
  have hl := List.eq_nil_of_length_eq_zero hl
  subst hl
  refine sum_for (fun _ => True) (fun i => [.own 0 0, .row .edit s, .int .i64 s.length, .int .i64 i]) (fun i => [.rowb 0 .one (s.take i)]) s.length (fun i hi _ R hR => ?_) (fun _ R => ?_) trivial
  · refine Eq.mpr (vcOnesB s (s.take i) i s.length _) ⟨fun _ => ?_, fun h => ?_⟩
    · rw [rd_ed hi, ed_eta, nd_eta, nd_eta]
      have hf := h2 _ (List.getElem_mem hi)
      refine ⟨⟨by omega, by omega⟩, ⟨⟨hf.1, hf.2⟩, ⟨?_, ?_⟩⟩⟩
      · simp only [List.length_take, List.length_cons, List.length_nil]
        have : min i s.length + 1 ≤ s.length := by omega
        exact Nat.le_trans (Nat.mul_le_mul_right _ this) h1
      · rw [take_snoc hi, wrap_succ hi (by omega)]
        exact hR trivial
    · simp at h; omega
  · refine Eq.mpr (vcOnesB s (s.take s.length) s.length s.length _) ⟨fun h => ?_, fun _ => ?_⟩
    · simp at h
    · rw [List.take_length]; exact h3
theorem ones_holds : Holds 40 conOnes := conP_holds fun s => by
  refine fun_meets1 tokOnes [] lsOnes (by kernel_rfl) (by kernel_rfl) ones_sum fun hpre => ?_
  obtain ⟨p1, p2⟩ := hpre _ rfl
  exact Eq.mpr (vcOnesF s _) ⟨fun _ => ⟨⟨rfl, rfl, rfl, p1, p2⟩, qfin rfl rfl rfl rfl⟩⟩
def conEdits : Con := conP [.row .one] fun (s : List Ed) => { pre := some (s.length * 224 ≤ maxSl), res := .own 0 0, extra := [.rowb 0 .edit s] }
theorem edits_sum : SumOK cx0 (LL Try.f43 [lsEdits]) Try.f43.ntmps (loopAt Try.f43 0).1 (loopAt Try.f43 0).2 lsEdits := by
  intro vs bs K hs
  unfold lsEdits at hs
  simp only at hs
  split at hs
  case h_2 => exact hs.elim
  rename_i s m i l
  obtain ⟨⟨rfl, rfl, hl, h1⟩, h3⟩ := hs
  have hl := List.eq_nil_of_length_eq_zero hl
  subst hl
  refine sum_for (fun _ => True) (fun i => [.own 0 0, .row .one s, .int .i64 s.length, .int .i64 i]) (fun i => [.rowb 0 .edit (s.take i)]) s.length (fun i hi _ R hR => ?_) (fun _ R => ?_) trivial
  · refine Eq.mpr (vcEditsB s (s.take i) i s.length _) ⟨fun _ => ?_, fun h => ?_⟩
    · rw [rd_one hi, ed_eta]
      refine ⟨⟨by omega, by omega⟩, ⟨?_, ?_⟩⟩
      · simp only [List.length_take, List.length_cons, List.length_nil]
        have : min i s.length + 1 ≤ s.length := by omega
        exact Nat.le_trans (Nat.mul_le_mul_right _ this) h1
      · rw [take_snoc hi, wrap_succ hi (by omega)]
        exact hR trivial
    · simp at h; omega
  · refine Eq.mpr (vcEditsB s (s.take s.length) s.length s.length _) ⟨fun h => ?_, fun _ => ?_⟩
    · simp at h
    · rw [List.take_length]; exact h3
theorem edits_holds : Holds 43 conEdits := conP_holds fun s => by
  refine fun_meets1 tok0 [] lsEdits (by kernel_rfl) (by kernel_rfl) edits_sum fun hpre => ?_
  exact Eq.mpr (vcEditsF s _) ⟨fun _ => ⟨⟨rfl, rfl, rfl, hpre _ rfl⟩, qfin rfl rfl rfl rfl⟩⟩
/-! #### Reverse -/
/-- Of xs the first i and the last i have changed places. -/
def rvd {α : Type} (xs : List α) (i : Nat) : List α := (xs.drop (xs.length - i)).reverse ++ (xs.drop i).take (xs.length - i - i) ++ (xs.take i).reverse
theorem rvd_len {α : Type} (xs : List α) {i : Nat} (h : i + i ≤ xs.length) : (rvd xs i).length = xs.length := by
  unfold rvd; simp only [List.length_append, List.length_reverse, List.length_drop, List.length_take]; omega
theorem rvd_get {α : Type} (xs : List α) {i k : Nat} (h : i + i ≤ xs.length) (hk : k < xs.length) : (rvd xs i)[k]? = if k < i ∨ xs.length ≤ k + i then xs[xs.length - 1 - k]? else xs[k]? := by
  unfold rvd
  rw [List.append_assoc, List.getElem?_append]
  simp only [List.length_reverse, List.length_drop]
  by_cases a : k < i
  · rw [if_pos (by omega), if_pos (.inl a), List.getElem?_reverse (by simp; omega), List.getElem?_drop]
    simp only [List.length_drop]
    congr 1; omega
  · rw [if_neg (by omega), List.getElem?_append]
    simp only [List.length_take, List.length_drop]
    by_cases b : xs.length ≤ k + i
    · rw [if_neg (by omega), if_pos (.inr b), List.getElem?_reverse (by simp; omega), List.getElem?_take, if_pos (by simp; omega)]
      congr 1
      simp only [List.length_take]; omega
    · rw [if_pos (by omega), if_neg (by omega), List.getElem?_take, if_pos (by omega), List.getElem?_drop]
      congr 1; omega
theorem rvd_step {α : Type} (xs : List α) {i : Nat} (h : i + i + 1 < xs.length) : ((rvd xs i).set i (xs[xs.length - 1 - i]'(by omega))).set (xs.length - 1 - i) (xs[i]'(by omega)) = rvd xs (i + 1) := by
  apply List.ext_getElem?
  intro k
  by_cases hk : k < xs.length
  · rw [rvd_get xs (by omega) hk, List.getElem?_set, List.getElem?_set]
    simp only [List.length_set, rvd_len xs (show i + i ≤ xs.length by omega)]
    by_cases a : xs.length - 1 - i = k
    · subst a
      rw [if_pos rfl, if_pos (by omega), if_pos (by omega), List.getElem?_eq_getElem (by omega)]
      congr 1; congr 1; omega
    · rw [if_neg a]
      by_cases b : i = k
      · subst b
        rw [if_pos rfl, if_pos (by omega), if_pos (by omega), List.getElem?_eq_getElem (by omega)]
      · rw [if_neg b, rvd_get xs (by omega) hk]
        by_cases c : k < i ∨ xs.length ≤ k + i
        · rw [if_pos c, if_pos (by omega)]
        · rw [if_neg c, if_neg (by omega)]
  · rw [List.getElem?_eq_none (by simp only [List.length_set]; rw [rvd_len xs (by omega)]; omega), List.getElem?_eq_none (by rw [rvd_len xs (by omega)]; omega)]
theorem rvd_done {α : Type} (xs : List α) {i : Nat} (h : i + i ≤ xs.length) (h' : xs.length ≤ i + i + 1) : rvd xs i = xs.reverse := by
  apply List.ext_getElem?
  intro k
  by_cases hk : k < xs.length
  · rw [rvd_get xs h hk, List.getElem?_reverse hk]
    by_cases c : k < i ∨ xs.length ≤ k + i
    · rw [if_pos c]
    · rw [if_neg c]
      congr 1; omega
  · rw [List.getElem?_eq_none (by rw [rvd_len xs h]; omega), List.getElem?_eq_none (by simp; omega)]
theorem rvd_zero {α : Type} (xs : List α) : rvd xs 0 = xs := by simp [rvd]
def conRevOne : Con := fun args hp => match args, hp with
  | [.own 0 0], [.rowb 0 .one xs] => some { res := .tup [], hp := [.rowb 0 .one xs.reverse], same := [0] }
  | _, _ => none
theorem revOne_sum : SumOK cx0 (LL Try.f41 [lsRevOne]) Try.f41.ntmps (loopAt Try.f41 0).1 (loopAt Try.f41 0).2 lsRevOne := by
  intro vs bs K hs
  unfold lsRevOne at hs
  simp only at hs
  split at hs
  case h_2 => exact hs.elim
  rename_i i j xs
  obtain ⟨⟨rfl, rfl, h1⟩, h3⟩ := hs
  have hw : IntKind.i64.wrap ((xs.length : Int) - 1) = (xs.length : Int) - 1 - (0 : Nat) := by unfold maxSl at h1; rw [wrap_id'] <;> omega
  have hx : xs = rvd xs 0 := (rvd_zero xs).symm
  rw [hw]
  suffices hh : ∃ m, roundsA cx0 (LL Try.f41 [lsRevOne]) Try.f41.ntmps (loopAt Try.f41 0).1 (loopAt Try.f41 0).2 lsRevOne.keep lsRevOne.left K m [.own 0 0, .int .i64 (0 : Nat), .int .i64 ((xs.length : Int) - 1 - (0 : Nat))] [.rowb 0 .one (rvd xs 0)] by
    rw [rvd_zero] at hh; exact hh
  refine sum_for (fun _ => True) (fun i => [.own 0 0, .int .i64 i, .int .i64 ((xs.length : Int) - 1 - i)]) (fun i => [.rowb 0 .one (rvd xs i)]) (xs.length / 2) (fun i hi _ R hR => ?_) (fun _ R => ?_) trivial
  · have hl : i + i + 1 < xs.length := by omega
    refine Eq.mpr (vcRevOneB (rvd xs i) i ((xs.length : Int) - 1 - i) _) ⟨fun _ => ?_, fun h => ?_⟩
    · have ej : (xs.length : Int) - 1 - i = ((xs.length - 1 - i : Nat) : Int) := by omega
      have hln := rvd_len xs (show i + i ≤ xs.length by omega)
      have g1 : rd .one (rvd xs i) ((xs.length : Int) - 1 - i) = xs[xs.length - 1 - i] := by
        rw [ej, rd_one (by omega)]
        have := rvd_get xs (show i + i ≤ xs.length by omega) (show xs.length - 1 - i < xs.length by omega)
        rw [if_neg (by omega), List.getElem?_eq_getElem (by omega), List.getElem?_eq_getElem (by omega)] at this
        injection this
      have g2 : rd .one (rvd xs i) (i : Int) = xs[i] := by
        rw [rd_one (by omega)]
        have := rvd_get xs (show i + i ≤ xs.length by omega) (show i < xs.length by omega)
        rw [if_neg (by omega), List.getElem?_eq_getElem (by omega), List.getElem?_eq_getElem (by omega)] at this
        injection this
      rw [g1, g2, ed_eta, ed_eta, ej]
      simp only [Int.toNat_natCast]
      refine ⟨⟨by omega, by omega⟩, ⟨⟨by omega, by omega⟩, ⟨⟨by omega, by omega⟩, ⟨⟨by omega, by rw [List.length_set]; omega⟩, ?_⟩⟩⟩⟩
      rw [rvd_step xs hl, wrap_succ (show i < xs.length by omega) h1]
      have e2 : IntKind.i64.wrap (((xs.length - 1 - i : Nat) : Int) - 1) = (xs.length : Int) - 1 - (i + 1 : Nat) := by unfold maxSl at h1; rw [wrap_id'] <;> omega
      rw [e2]
      exact hR trivial
    · simp at h; omega
  · refine Eq.mpr (vcRevOneB _ _ _ _) ⟨fun h => ?_, fun _ => ?_⟩
    · simp at h; omega
    · rw [rvd_done xs (by omega) (by omega)]; exact h3
theorem revOne_holds : Holds 41 conRevOne := by
  intro args hp ans hc
  unfold conRevOne at hc
  split at hc
  · rename_i xs
    injection hc with hc
    subst hc
    refine fun_meets1S tok0 [.slot 0] [] lsRevOne (by kernel_rfl) (by kernel_rfl) revOne_sum fun hpre => ?_
    exact Eq.mpr (vcRevOneF xs _) ⟨fun h1 => ⟨⟨rfl, rfl, h1⟩, qfin rfl rfl rfl rfl⟩⟩
  · cases hc
end Go.Proofs.Ytmkjjopflncedaa.AX
end
section
namespace Go.Proofs.Ytmkjjopflncedaa.AXP
open Go Go.Proofs.Ytmkjjopflncedaa.AX
/-- Equal edits. -/
def eqEd (x y : Ed) : Bool := x.what == y.what && eql eqI x.way y.way && eqNd x.old y.old && eqNd x.new y.new
end Go.Proofs.Ytmkjjopflncedaa.AXP
namespace Go.Proofs.Ytmkjjopflncedaa.AX
open Go AXP
def sumEql (t : Ty) (f : den t → den t → Bool) (a b c : List (den t)) (m i : Int) (K : Ex → List AV → List Blk → Prop) : Prop :=
  Rq (c = a ∧ m = a.length ∧ i = 0 ∧ a.length = b.length ∧ a.length ≤ maxSl) (Br (eql f a b) (K (.exit 0) [.any] []) (K .ret [.bool false] []))
def lsEqIts : LS where
  keep := [(0, .as), (1, .as), (12, .as), (13, .as)]
  left := [(4, .as)]
  sum := fun vs bs K => match vs, bs with
    | [.row .int a, .row .int b, .int .i64 m, .int .i64 i], [] => sumEql .int eqI a b a m i K
    | _, _ => False
def lsEqAts : LS where
  keep := [(0, .as), (1, .as), (12, .as), (13, .as)]
  left := [(4, .as)]
  sum := fun vs bs K => match vs, bs with
    | [.row .attr a, .row .attr b, .int .i64 m, .int .i64 i], [] => sumEql .attr eqAt a b a m i K
    | _, _ => False
def lsEqfAts : LS where
  keep := [(1, .as), (2, .as), (15, .as), (16, .as), (17, .as)]
  left := [(6, .as)]
  sum := fun vs bs K => match vs, bs with
    | [.row .attr b, .fn f [], .row .attr a, .int .i64 m, .int .i64 i], [] => Rq (f = 97) (sumEql .attr eqAt a b a m i K)
    | _, _ => False
noncomputable def lsEqfNds (k : Nat) : LS where
  keep := [(1, .as), (2, .as), (15, .as), (16, .as), (17, .as)]
  left := [(6, .as)]
  sum := fun vs bs K => match vs, bs with
    | [.row .node b, .fn f [], .row .node a, .int .i64 m, .int .i64 i], [] => Rq (f = 95 ∧ szNds a < k + 1) (sumEql .node eqNd a b a m i K)
    | _, _ => False
def lsEqfEds : LS where
  keep := [(1, .as), (2, .as), (15, .as), (16, .as), (17, .as)]
  left := [(6, .as)]
  sum := fun vs bs K => match vs, bs with
    | [.row .edit b, .fn f [], .row .edit a, .int .i64 m, .int .i64 i], [] => Rq (f = 45) (sumEql .edit eqEd a b a m i K)
    | _, _ => False
def conEqIts : Con := conP [.row .int, .row .int] fun (a b : List Int) => { res := .bool (eql eqI a b) }
def conEqAts : Con := conP [.row .attr, .row .attr] fun (a b : List At) => { res := .bool (eql eqAt a b) }
def conAtEq : Con := conP [.agg .attr, .agg .attr] fun (a b : At) => { res := .bool (eqAt a b) }
def conEqfAts : Con := conP [.row .attr, .row .attr, .fn 97] fun (a b : List At) _ => { res := .bool (eql eqAt a b) }
noncomputable def conSameLt (k : Nat) : Con := conP [.row .node, .row .node] fun (a b : List Nd) => { pre := some (szNds a < k), res := .bool (eql eqNd a b) }
noncomputable def conSame1 (k : Nat) : Con := conP [.agg .node, .agg .node] fun (a b : Nd) => { pre := some (szNds a.kids < k), res := .bool (eqNd a b) }
noncomputable def conEqfNds (k : Nat) : Con := conP [.row .node, .row .node, .fn 95] fun (a b : List Nd) _ => { pre := some (szNds a < k + 1), res := .bool (eql eqNd a b) }
def conSame : Con := conP [.row .node, .row .node] fun (a b : List Nd) => { res := .bool (eql eqNd a b) }
def conEdSame1 : Con := conP [.agg .node, .agg .node] fun (a b : Nd) => { res := .bool (eqNd a b) }
def conEdSameF : Con := conP [.agg .edit, .agg .edit] fun (a b : Ed) => { res := .bool (eqEd a b) }
def conEqfEds : Con := conP [.row .edit, .row .edit, .fn 45] fun (a b : List Ed) _ => { res := .bool (eql eqEd a b) }
def conEdSame : Con := conP [.row .edit, .row .edit] fun (a b : List Ed) => { res := .bool (eql eqEd a b) }
noncomputable def cxEqfAts : Cx := cxT (tabLook [(97, conAtEq)])
noncomputable def cxSame1 (k : Nat) : Cx := cxT (tabLook [(96, conEqfAts), (70, conSameLt k)])
noncomputable def cxEqfNds (k : Nat) : Cx := cxT (tabLook [(95, conSame1 k)])
noncomputable def cxSame (k : Nat) : Cx := cxT (tabLook [(94, conEqfNds k)])
noncomputable def cxEdSame1 : Cx := cxT (tabLook [(70, conSame)])
noncomputable def cxEdSameF : Cx := cxT (tabLook [(46, conEqIts), (47, conEdSame1)])
noncomputable def cxEqfEds : Cx := cxT (tabLook [(45, conEdSameF)])
noncomputable def cxEdSame : Cx := cxT (tabLook [(44, conEqfEds)])
end Go.Proofs.Ytmkjjopflncedaa.AX
end
section
namespace Go.Proofs.Ytmkjjopflncedaa.AX
open Go AXP
set_option maxRecDepth 100000
theorem vcEqItsB (a b : List Int) (i m : Int) (K : Ex → List AV → List Blk → Prop) : (bodyA cx0 (LL Try.f46 [lsEqIts]) Try.f46.ntmps (loopAt Try.f46 0).1 (loopAt Try.f46 0).2 lsEqIts.keep lsEqIts.left K [.row .int a, .row .int b, .int .i64 m, .int .i64 i] []) = (
Br (decide (i < m))
  (Rq ((0 : Int) ≤ i ∧ i < (↑a.length : Int))
    (Rq ((0 : Int) ≤ i ∧ i < (↑b.length : Int))
      (Br (rd Ty.int a i != rd Ty.int b i) (K Ex.ret [AV.bool false] [])
        (K Ex.norm
          [AV.row Ty.int a, AV.row Ty.int b, AV.int IntKind.i64 m,
            AV.int IntKind.i64 (IntKind.i64.wrap (i + (1 : Int)))]
          []))))
  (K (Ex.exit (0 : Nat)) [AV.any] [])) := by kernel_rfl
theorem vcEqItsF (a b : List Int) (Q : List AV → List Blk → List Blk → Prop) : (funA cx0 (LL Try.f46 [lsEqIts]) Try.f46 [.row .int a, .row .int b] [] [] Q) = (
Gv (a.length ≤ maxSl)
  (Gv (b.length ≤ maxSl)
    (Br ((↑a.length : Int) != (↑b.length : Int)) (Q [AV.bool false] [] [])
      (Gv (a.length ≤ maxSl)
        (Rq
          (a = a ∧
            (↑a.length : Int) = (↑a.length : Int) ∧ (0 : Int) = (0 : Int) ∧ a.length = b.length ∧ a.length ≤ maxSl)
          (Br (eql eqI a b) (Q [AV.bool true] [] []) (Q [AV.bool false] [] []))))))) := by kernel_rfl
theorem vcEqAtsB (a b : List At) (i m : Int) (K : Ex → List AV → List Blk → Prop) : (bodyA cx0 (LL Try.f73 [lsEqAts]) Try.f73.ntmps (loopAt Try.f73 0).1 (loopAt Try.f73 0).2 lsEqAts.keep lsEqAts.left K [.row .attr a, .row .attr b, .int .i64 m, .int .i64 i] []) = (
Br (decide (i < m))
  (Rq ((0 : Int) ≤ i ∧ i < (↑a.length : Int))
    (Rq ((0 : Int) ≤ i ∧ i < (↑b.length : Int))
      (Br (!(eqS (rd Ty.attr a i).1 (rd Ty.attr b i).1 && eqS (rd Ty.attr a i).2 (rd Ty.attr b i).2))
        (K Ex.ret [AV.bool false] [])
        (K Ex.norm
          [AV.row Ty.attr a, AV.row Ty.attr b, AV.int IntKind.i64 m,
            AV.int IntKind.i64 (IntKind.i64.wrap (i + (1 : Int)))]
          []))))
  (K (Ex.exit (0 : Nat)) [AV.any] [])) := by kernel_rfl
theorem vcEqAtsF (a b : List At) (Q : List AV → List Blk → List Blk → Prop) : (funA cx0 (LL Try.f73 [lsEqAts]) Try.f73 [.row .attr a, .row .attr b] [] [] Q) = (
Gv (a.length ≤ maxSl)
  (Gv (b.length ≤ maxSl)
    (Br ((↑a.length : Int) != (↑b.length : Int)) (Q [AV.bool false] [] [])
      (Gv (a.length ≤ maxSl)
        (Rq
          (a = a ∧
            (↑a.length : Int) = (↑a.length : Int) ∧ (0 : Int) = (0 : Int) ∧ a.length = b.length ∧ a.length ≤ maxSl)
          (Br (eql eqAt a b) (Q [AV.bool true] [] []) (Q [AV.bool false] [] []))))))) := by kernel_rfl
theorem vcAtEqF (a b : At) (Q : List AV → List Blk → List Blk → Prop) : (funA cx0 (LL Try.f97 []) Try.f97 [.agg (leaves .attr a), .agg (leaves .attr b)] [] [] Q) = (
Q [AV.bool (eqS a.1 b.1 && eqS a.2 b.2)] [] []) := by kernel_rfl
theorem vcEqfAtsB (a b : List At) (i m : Int) (K : Ex → List AV → List Blk → Prop) : (bodyA cxEqfAts (LL Try.f96 [lsEqfAts]) Try.f96.ntmps (loopAt Try.f96 0).1 (loopAt Try.f96 0).2 lsEqfAts.keep lsEqfAts.left K [.row .attr b, .fn 97 [], .row .attr a, .int .i64 m, .int .i64 i] []) = (
Br (decide (i < m))
  (Rq ((0 : Int) ≤ i ∧ i < (↑a.length : Int))
    (Rq ((0 : Int) ≤ i ∧ i < (↑b.length : Int))
      (Br (!eqAt (At.mk (rd Ty.attr a i).1 (rd Ty.attr a i).2) (At.mk (rd Ty.attr b i).1 (rd Ty.attr b i).2))
        (K Ex.ret [AV.bool false] [])
        (K Ex.norm
          [AV.row Ty.attr b, AV.fn (97 : Nat) [], AV.row Ty.attr a, AV.int IntKind.i64 m,
            AV.int IntKind.i64 (IntKind.i64.wrap (i + (1 : Int)))]
          []))))
  (K (Ex.exit (0 : Nat)) [AV.any] [])) := by kernel_rfl
theorem vcEqfAtsF (a b : List At) (Q : List AV → List Blk → List Blk → Prop) : (funA cxEqfAts (LL Try.f96 [lsEqfAts]) Try.f96 [.row .attr a, .row .attr b, .fn 97 []] [] [] Q) = (
Gv (a.length ≤ maxSl)
  (Gv (b.length ≤ maxSl)
    (Br ((↑a.length : Int) != (↑b.length : Int)) (Q [AV.bool false] [] [])
      (Gv (a.length ≤ maxSl)
        (Rq ((97 : Nat) = (97 : Nat))
          (Rq
            (a = a ∧
              (↑a.length : Int) = (↑a.length : Int) ∧ (0 : Int) = (0 : Int) ∧ a.length = b.length ∧ a.length ≤ maxSl)
            (Br (eql eqAt a b) (Q [AV.bool true] [] []) (Q [AV.bool false] [] [])))))))) := by kernel_rfl
theorem vcEqfNdsB (k : Nat) (a b : List Nd) (i m : Int) (K : Ex → List AV → List Blk → Prop) : (bodyA (cxEqfNds k) (LL Try.f94 [lsEqfNds k]) Try.f94.ntmps (loopAt Try.f94 0).1 (loopAt Try.f94 0).2 (lsEqfNds k).keep (lsEqfNds k).left K [.row .node b, .fn 95 [], .row .node a, .int .i64 m, .int .i64 i] []) = (
Br (decide (i < m))
  (Rq ((0 : Int) ≤ i ∧ i < (↑a.length : Int))
    (Rq ((0 : Int) ≤ i ∧ i < (↑b.length : Int))
      (Rq (szNds (rd Ty.node a i).6 < k)
        (Br
          (!eqNd
              (Nd.mk (rd Ty.node a i).1 (rd Ty.node a i).2 (rd Ty.node a i).3 (rd Ty.node a i).4 (rd Ty.node a i).5
                (rd Ty.node a i).6)
              (Nd.mk (rd Ty.node b i).1 (rd Ty.node b i).2 (rd Ty.node b i).3 (rd Ty.node b i).4 (rd Ty.node b i).5
                (rd Ty.node b i).6))
          (K Ex.ret [AV.bool false] [])
          (K Ex.norm
            [AV.row Ty.node b, AV.fn (95 : Nat) [], AV.row Ty.node a, AV.int IntKind.i64 m,
              AV.int IntKind.i64 (IntKind.i64.wrap (i + (1 : Int)))]
            [])))))
  (K (Ex.exit (0 : Nat)) [AV.any] [])) := by kernel_rfl
theorem vcEqfNdsF (k : Nat) (a b : List Nd) (Q : List AV → List Blk → List Blk → Prop) : (funA (cxEqfNds k) (LL Try.f94 [lsEqfNds k]) Try.f94 [.row .node a, .row .node b, .fn 95 []] [] [] Q) = (
Gv (a.length ≤ maxSl)
  (Gv (b.length ≤ maxSl)
    (Br ((↑a.length : Int) != (↑b.length : Int)) (Q [AV.bool false] [] [])
      (Gv (a.length ≤ maxSl)
        (Rq ((95 : Nat) = (95 : Nat) ∧ szNds a < k + (1 : Nat))
          (Rq
            (a = a ∧
              (↑a.length : Int) = (↑a.length : Int) ∧ (0 : Int) = (0 : Int) ∧ a.length = b.length ∧ a.length ≤ maxSl)
            (Br (eql eqNd a b) (Q [AV.bool true] [] []) (Q [AV.bool false] [] [])))))))) := by kernel_rfl
theorem vcEqfEdsB (a b : List Ed) (i m : Int) (K : Ex → List AV → List Blk → Prop) : (bodyA cxEqfEds (LL Try.f44 [lsEqfEds]) Try.f44.ntmps (loopAt Try.f44 0).1 (loopAt Try.f44 0).2 lsEqfEds.keep lsEqfEds.left K [.row .edit b, .fn 45 [], .row .edit a, .int .i64 m, .int .i64 i] []) = (
Br (decide (i < m))
  (Rq ((0 : Int) ≤ i ∧ i < (↑a.length : Int))
    (Rq ((0 : Int) ≤ i ∧ i < (↑b.length : Int))
      (Br
        (!eqEd
            (Ed.mk (rd Ty.edit a i).1 (rd Ty.edit a i).2
              (Nd.mk (rd Ty.edit a i).old.1 (rd Ty.edit a i).old.2 (rd Ty.edit a i).old.3 (rd Ty.edit a i).old.4
                (rd Ty.edit a i).old.5 (rd Ty.edit a i).old.6)
              (Nd.mk (rd Ty.edit a i).new.1 (rd Ty.edit a i).new.2 (rd Ty.edit a i).new.3 (rd Ty.edit a i).new.4
                (rd Ty.edit a i).new.5 (rd Ty.edit a i).new.6))
            (Ed.mk (rd Ty.edit b i).1 (rd Ty.edit b i).2
              (Nd.mk (rd Ty.edit b i).old.1 (rd Ty.edit b i).old.2 (rd Ty.edit b i).old.3 (rd Ty.edit b i).old.4
                (rd Ty.edit b i).old.5 (rd Ty.edit b i).old.6)
              (Nd.mk (rd Ty.edit b i).new.1 (rd Ty.edit b i).new.2 (rd Ty.edit b i).new.3 (rd Ty.edit b i).new.4
                (rd Ty.edit b i).new.5 (rd Ty.edit b i).new.6)))
        (K Ex.ret [AV.bool false] [])
        (K Ex.norm
          [AV.row Ty.edit b, AV.fn (45 : Nat) [], AV.row Ty.edit a, AV.int IntKind.i64 m,
            AV.int IntKind.i64 (IntKind.i64.wrap (i + (1 : Int)))]
          []))))
  (K (Ex.exit (0 : Nat)) [AV.any] [])) := by kernel_rfl
theorem vcEqfEdsF (a b : List Ed) (Q : List AV → List Blk → List Blk → Prop) : (funA cxEqfEds (LL Try.f44 [lsEqfEds]) Try.f44 [.row .edit a, .row .edit b, .fn 45 []] [] [] Q) = (
Gv (a.length ≤ maxSl)
  (Gv (b.length ≤ maxSl)
    (Br ((↑a.length : Int) != (↑b.length : Int)) (Q [AV.bool false] [] [])
      (Gv (a.length ≤ maxSl)
        (Rq ((45 : Nat) = (45 : Nat))
          (Rq
            (a = a ∧
              (↑a.length : Int) = (↑a.length : Int) ∧ (0 : Int) = (0 : Int) ∧ a.length = b.length ∧ a.length ≤ maxSl)
            (Br (eql eqEd a b) (Q [AV.bool true] [] []) (Q [AV.bool false] [] [])))))))) := by kernel_rfl
theorem vcSame1F (k : Nat) (a b : Nd) (Q : List AV → List Blk → List Blk → Prop) : (funA (cxSame1 k) (LL Try.f95 []) Try.f95 [.agg (leaves .node a), .agg (leaves .node b)] [] [] Q) = (
Br (a.1 == b.1)
  (Br (a.2 == b.2)
    (Br (eqS a.3 b.3)
      (Br (eqS a.5 b.5)
        (Br (eql eqAt a.4 b.4) (Rq (szNds a.6 < k) (Q [AV.bool (eql eqNd a.6 b.6)] [] [])) (Q [AV.bool false] [] []))
        (Q [AV.bool false] [] []))
      (Q [AV.bool false] [] []))
    (Q [AV.bool false] [] []))
  (Q [AV.bool false] [] [])) := by kernel_rfl
theorem vcSameF (k : Nat) (a b : List Nd) (Q : List AV → List Blk → List Blk → Prop) : (funA (cxSame k) (LL Try.f70 []) Try.f70 [.row .node a, .row .node b] [] [] Q) = (
Rq (szNds a < k + (1 : Nat)) (Q [AV.bool (eql eqNd a b)] [] [])) := by kernel_rfl
theorem vcEdSame1F (a b : Nd) (Q : List AV → List Blk → List Blk → Prop) : (funA cxEdSame1 (LL Try.f47 []) Try.f47 [.agg (leaves .node a), .agg (leaves .node b)] [] [] Q) = (
Q [AV.bool (eql eqNd [Nd.mk a.1 a.2 a.3 a.4 a.5 a.6] [Nd.mk b.1 b.2 b.3 b.4 b.5 b.6])] [] []) := by kernel_rfl
theorem vcEdSameFF (a b : Ed) (Q : List AV → List Blk → List Blk → Prop) : (funA cxEdSameF (LL Try.f45 []) Try.f45 [.agg (leaves .edit a), .agg (leaves .edit b)] [] [] Q) = (
Br (a.1 == b.1)
  (Br (eql eqI a.2 b.2)
    (Br
      (eqNd (Nd.mk a.old.1 a.old.2 a.old.3 a.old.4 a.old.5 a.old.6)
        (Nd.mk b.old.1 b.old.2 b.old.3 b.old.4 b.old.5 b.old.6))
      (Q
        [AV.bool
            (eqNd (Nd.mk a.new.1 a.new.2 a.new.3 a.new.4 a.new.5 a.new.6)
              (Nd.mk b.new.1 b.new.2 b.new.3 b.new.4 b.new.5 b.new.6))]
        [] [])
      (Q [AV.bool false] [] []))
    (Q [AV.bool false] [] []))
  (Q [AV.bool false] [] [])) := by kernel_rfl
theorem vcEdSameF (a b : List Ed) (Q : List AV → List Blk → List Blk → Prop) : (funA cxEdSame (LL Try.f22 []) Try.f22 [.row .edit a, .row .edit b] [] [] Q) = (
Q [AV.bool (eql eqEd a b)] [] []) := by kernel_rfl
end Go.Proofs.Ytmkjjopflncedaa.AX
end
section
namespace Go.Proofs.Ytmkjjopflncedaa.AX
open Go AXP
set_option maxRecDepth 100000
theorem at_eta (x : At) : At.mk x.1 x.2 = x := rfl
theorem rd_at {a : List At} {i : Nat} (h : i < a.length) : rd .attr a (i : Int) = a[i] := rd_get (t := .attr) h
theorem rd_int {a : List Int} {i : Nat} (h : i < a.length) : rd .int a (i : Int) = a[i] := rd_get (t := .int) h
theorem eql_drop {α : Type} {f : α → α → Bool} {a b : List α} {i : Nat} (ha : i < a.length) (hb : i < b.length) : eql f (a.drop i) (b.drop i) = (f a[i] b[i] && eql f (a.drop (i + 1)) (b.drop (i + 1))) := by
  rw [List.drop_eq_getElem_cons ha, List.drop_eq_getElem_cons hb]; rfl
theorem eql_len {α : Type} {f : α → α → Bool} : ∀ {a b : List α}, a.length ≠ b.length → eql f a b = false
  | [], [], h => (h rfl).elim
  | [], _ :: _, _ => rfl
  | _ :: _, [], _ => rfl
  | x :: a, y :: b, h => by rw [eql, eql_len (a := a) (b := b) (by simpa using h), Bool.and_false]
/-- The rounds of such a loop. -/
theorem eql_sum {cx : Cx} {L : Loops} {n bl : Nat} {c : Code} {keep left : List (Tmp × Want)} {t : Ty} {f : den t → den t → Bool} {a b : List (den t)} {K : Ex → List AV → List Blk → Prop} (st : Nat → List AV) (hl : a.length = b.length)
    (hb : ∀ (i : Nat) (h : i < a.length) (h' : i < b.length), ∀ R : List AV → List Blk → Prop, (f a[i] b[i] = false → K .ret [.bool false] []) → (f a[i] b[i] = true → R (st (i + 1)) []) → bodyA cx L n bl c keep left (rk K R) (st i) [])
    (he : ∀ R, K (.exit 0) [.any] [] → bodyA cx L n bl c keep left (rk K R) (st a.length) [])
    (h : Br (eql f a b) (K (.exit 0) [.any] []) (K .ret [.bool false] [])) : ∃ m, roundsA cx L n bl c keep left K m (st 0) [] := by
  refine sum_for (fun i => eql f a b = eql f (a.drop i) (b.drop i)) st (fun _ => []) a.length (fun i hi hp R hR => ?_) (fun hp R => ?_) (by simp)
  · have hd := eql_drop (f := f) hi (by omega : i < b.length)
    refine hb i hi (by omega) R (fun h1 => h.no ?_) (fun h1 => hR ?_)
    · rw [hp, hd, h1, Bool.false_and]
    · rw [hp, hd, h1, Bool.true_and]
  · refine he R (h.yes ?_)
    rw [hp, List.drop_length, hl, List.drop_length]; rfl
theorem ret_false {a : Bool} (h : (!a) = true) : a = false := by simpa using h
theorem ret_true {a : Bool} (h : (!a) = false) : a = true := by simpa using h
theorem not_lt_self {n : Nat} {P : Prop} (h : decide ((n : Int) < (n : Int)) = true) : P := by simp at h
theorem lt_of {i n : Nat} {P : Prop} (h : decide ((i : Int) < (n : Int)) = false) (hi : i < n) : P := by simp at h; omega
theorem eqIts_sum : SumOK cx0 (LL Try.f46 [lsEqIts]) Try.f46.ntmps (loopAt Try.f46 0).1 (loopAt Try.f46 0).2 lsEqIts := by
  intro vs bs K hs
  unfold lsEqIts at hs
  simp only at hs
  split at hs
  case h_2 => exact hs.elim
  rename_i a b m i
  obtain ⟨⟨_, rfl, rfl, hl, hm⟩, h⟩ := hs
  refine eql_sum (t := .int) (fun i => [.row .int a, .row .int b, .int .i64 a.length, .int .i64 i]) hl (fun i hi hi' R h1 h2 => ?_) (fun R h1 => ?_) h
  · refine Eq.mpr (vcEqItsB a b i a.length _) ⟨fun _ => ⟨⟨by omega, by omega⟩, ⟨⟨by omega, by omega⟩, ?_⟩⟩, fun h => lt_of h hi⟩
    rw [rd_int hi, rd_int hi', wrap_succ hi hm]
    exact ⟨fun h => h1 (by simpa [eqI] using h), fun h => h2 (by simpa [eqI] using h)⟩
  · exact Eq.mpr (vcEqItsB a b a.length a.length _) ⟨fun h => not_lt_self h, fun _ => h1⟩
theorem eqAts_sum : SumOK cx0 (LL Try.f73 [lsEqAts]) Try.f73.ntmps (loopAt Try.f73 0).1 (loopAt Try.f73 0).2 lsEqAts := by
  intro vs bs K hs
  unfold lsEqAts at hs
  simp only at hs
  split at hs
  case h_2 => exact hs.elim
  rename_i a b m i
  obtain ⟨⟨_, rfl, rfl, hl, hm⟩, h⟩ := hs
  refine eql_sum (t := .attr) (fun i => [.row .attr a, .row .attr b, .int .i64 a.length, .int .i64 i]) hl (fun i hi hi' R h1 h2 => ?_) (fun R h1 => ?_) h
  · refine Eq.mpr (vcEqAtsB a b i a.length _) ⟨fun _ => ⟨⟨by omega, by omega⟩, ⟨⟨by omega, by omega⟩, ?_⟩⟩, fun h => lt_of h hi⟩
    rw [rd_at hi, rd_at hi', wrap_succ hi hm]
    exact ⟨fun h => h1 (ret_false h), fun h => h2 (ret_true h)⟩
  · exact Eq.mpr (vcEqAtsB a b a.length a.length _) ⟨fun h => not_lt_self h, fun _ => h1⟩
theorem eqfAts_sum : SumOK cxEqfAts (LL Try.f96 [lsEqfAts]) Try.f96.ntmps (loopAt Try.f96 0).1 (loopAt Try.f96 0).2 lsEqfAts := by
  intro vs bs K hs
  unfold lsEqfAts at hs
  simp only at hs
  split at hs
  case h_2 => exact hs.elim
  rename_i b f a m i
  obtain ⟨rfl, ⟨_, rfl, rfl, hl, hm⟩, h⟩ := hs
  refine eql_sum (t := .attr) (fun i => [.row .attr b, .fn 97 [], .row .attr a, .int .i64 a.length, .int .i64 i]) hl (fun i hi hi' R h1 h2 => ?_) (fun R h1 => ?_) h
  · refine Eq.mpr (vcEqfAtsB a b i a.length _) ⟨fun _ => ⟨⟨by omega, by omega⟩, ⟨⟨by omega, by omega⟩, ?_⟩⟩, fun h => lt_of h hi⟩
    rw [rd_at hi, rd_at hi', wrap_succ hi hm]
    exact ⟨fun h => h1 (by simpa using h), fun h => h2 (by simpa using h)⟩
  · exact Eq.mpr (vcEqfAtsB a b a.length a.length _) ⟨fun h => not_lt_self h, fun _ => h1⟩
theorem eqfNds_sum (k : Nat) : SumOK (cxEqfNds k) (LL Try.f94 [lsEqfNds k]) Try.f94.ntmps (loopAt Try.f94 0).1 (loopAt Try.f94 0).2 (lsEqfNds k) := by
  intro vs bs K hs
  unfold lsEqfNds at hs
  simp only at hs
  split at hs
  case h_2 => exact hs.elim
  rename_i b f a m i
  obtain ⟨⟨rfl, hk⟩, ⟨_, rfl, rfl, hl, hm⟩, h⟩ := hs
  refine eql_sum (t := .node) (fun i => [.row .node b, .fn 95 [], .row .node a, .int .i64 a.length, .int .i64 i]) hl (fun i hi hi' R h1 h2 => ?_) (fun R h1 => ?_) h
  · refine Eq.mpr (vcEqfNdsB k a b i a.length _) ⟨fun _ => ⟨⟨by omega, by omega⟩, ⟨⟨by omega, by omega⟩, ?_⟩⟩, fun h => lt_of h hi⟩
    rw [rd_nd hi, rd_nd hi', wrap_succ hi hm, nd_eta, nd_eta]
    exact ⟨Nat.lt_of_lt_of_le (szNds_kids hi) (Nat.le_of_lt_succ hk), ⟨fun h => h1 (by simpa using h), fun h => h2 (by simpa using h)⟩⟩
  · exact Eq.mpr (vcEqfNdsB k a b a.length a.length _) ⟨fun h => not_lt_self h, fun _ => h1⟩
theorem eqfEds_sum : SumOK cxEqfEds (LL Try.f44 [lsEqfEds]) Try.f44.ntmps (loopAt Try.f44 0).1 (loopAt Try.f44 0).2 lsEqfEds := by
  intro vs bs K hs
  unfold lsEqfEds at hs
  simp only at hs
  split at hs
  case h_2 => exact hs.elim
  rename_i b f a m i
  obtain ⟨rfl, ⟨_, rfl, rfl, hl, hm⟩, h⟩ := hs
  refine eql_sum (t := .edit) (fun i => [.row .edit b, .fn 45 [], .row .edit a, .int .i64 a.length, .int .i64 i]) hl (fun i hi hi' R h1 h2 => ?_) (fun R h1 => ?_) h
  · refine Eq.mpr (vcEqfEdsB a b i a.length _) ⟨fun _ => ⟨⟨by omega, by omega⟩, ⟨⟨by omega, by omega⟩, ?_⟩⟩, fun h => lt_of h hi⟩
    rw [rd_ed hi, rd_ed hi', wrap_succ hi hm, ed_eta, ed_eta]
    exact ⟨fun h => h1 (by simpa using h), fun h => h2 (by simpa using h)⟩
  · exact Eq.mpr (vcEqfEdsB a b a.length a.length _) ⟨fun h => not_lt_self h, fun _ => h1⟩
/-- Such a function's text. -/
theorem eql_fun {t : Ty} {f : den t → den t → Bool} {a b : List (den t)} {Q : List AV → List Blk → List Blk → Prop} (X : Prop) (hX : X) (hQ : Q [AV.bool (eql f a b)] [] []) : Gv (a.length ≤ maxSl) (Gv (b.length ≤ maxSl) (Br ((a.length : Int) != (b.length : Int)) (Q [AV.bool false] [] [])
    (Gv (a.length ≤ maxSl) (Rq X (Rq (a = a ∧ (a.length : Int) = a.length ∧ (0 : Int) = 0 ∧ a.length = b.length ∧ a.length ≤ maxSl) (Br (eql f a b) (Q [AV.bool true] [] []) (Q [AV.bool false] [] []))))))) := by
  refine ⟨fun h1 => ⟨fun h2 => ⟨fun h3 => ?_, fun h3 => ⟨fun _ => ⟨hX, ⟨⟨rfl, rfl, rfl, ?_, h1⟩, ⟨fun h4 => ?_, fun h4 => ?_⟩⟩⟩⟩⟩⟩⟩
  · rw [eql_len (fun e => by simp [e] at h3)] at hQ; exact hQ
  · have h3 : (a.length : Int) = b.length := by simpa using h3
    omega
  · rw [h4] at hQ; exact hQ
  · rw [h4] at hQ; exact hQ
theorem eqIts_holds : Holds 46 conEqIts := conP_holds fun a b => by
  refine fun_meets1 tok0 [] lsEqIts (by kernel_rfl) (by kernel_rfl) eqIts_sum fun hpre => Eq.mpr (vcEqItsF a b _) ?_
  have := eql_fun (t := .int) (f := eqI) (a := a) (b := b) (Q := FinQ { res := .bool (eql eqI a b) }) True trivial (qfin rfl rfl rfl rfl)
  exact ⟨fun h1 => ⟨fun h2 => ⟨((this.on h1).on h2).yes, fun h3 => ⟨fun h4 => ((((this.on h1).on h2).no h3).on h4).on⟩⟩⟩⟩
theorem eqAts_holds : Holds 73 conEqAts := conP_holds fun a b => by
  refine fun_meets1 tok0 [] lsEqAts (by kernel_rfl) (by kernel_rfl) eqAts_sum fun hpre => Eq.mpr (vcEqAtsF a b _) ?_
  have := eql_fun (t := .attr) (f := eqAt) (a := a) (b := b) (Q := FinQ { res := .bool (eql eqAt a b) }) True trivial (qfin rfl rfl rfl rfl)
  exact ⟨fun h1 => ⟨fun h2 => ⟨((this.on h1).on h2).yes, fun h3 => ⟨fun h4 => ((((this.on h1).on h2).no h3).on h4).on⟩⟩⟩⟩
theorem atEq_holds : Holds 97 conAtEq := conP_holds fun a b => by
  refine fun_meets0 tok0 [] (by kernel_rfl) (by kernel_rfl) fun hpre => Eq.mpr (vcAtEqF a b _) (qfin rfl rfl rfl rfl)
theorem eqfAts_holds : Holds 96 conEqfAts := conP_holds fun a b _ => by
  refine fun_meets1 (AllH.tok (.cons atEq_holds (by kernel_rfl) .nil)) [] lsEqfAts (by kernel_rfl) (by kernel_rfl) eqfAts_sum fun hpre => Eq.mpr (vcEqfAtsF a b _) ?_
  exact eql_fun (t := .attr) (f := eqAt) (a := a) (b := b) (Q := FinQ _) _ rfl (qfin rfl rfl rfl rfl)
theorem same1_of {k : Nat} (h : Holds 70 (conSameLt k)) : Holds 95 (conSame1 k) := conP_holds fun a b => by
  refine fun_meets0 (AllH.tok (.cons eqfAts_holds (by kernel_rfl) (.cons h (by kernel_rfl) .nil))) [] (by kernel_rfl) (by kernel_rfl) fun hpre => Eq.mpr (vcSame1F k a b _) ?_
  have e := eqNd_eq a b
  rw [eqNds_eql] at e
  refine ⟨fun h1 => ⟨fun h2 => ⟨fun h3 => ⟨fun h4 => ⟨fun h5 => ⟨hpre _ rfl, qfin rfl ?_ rfl rfl⟩, fun h5 => qfin rfl ?_ rfl rfl⟩, fun h4 => qfin rfl ?_ rfl rfl⟩, fun h3 => qfin rfl ?_ rfl rfl⟩, fun h2 => qfin rfl ?_ rfl rfl⟩, fun h1 => qfin rfl ?_ rfl rfl⟩ <;>
  · show [AV.bool _] = [AV.bool _]
    rw [e]
    simp only [*, Bool.true_and, Bool.false_and, Bool.and_false]
theorem eqfNds_of {k : Nat} (h : Holds 95 (conSame1 k)) : Holds 94 (conEqfNds k) := conP_holds fun a b _ => by
  refine fun_meets1 (AllH.tok (.cons h (by kernel_rfl) .nil)) [] (lsEqfNds k) (by kernel_rfl) (by kernel_rfl) (eqfNds_sum k) fun hpre => Eq.mpr (vcEqfNdsF k a b _) ?_
  exact eql_fun (t := .node) (f := eqNd) (a := a) (b := b) (Q := FinQ _) _ ⟨rfl, hpre _ rfl⟩ (qfin rfl rfl rfl rfl)
theorem same_lt : ∀ k, Holds 70 (conSameLt k)
  | 0 => conP_holds fun a b F I w vals _ _ hpre => absurd (hpre _ rfl) (Nat.not_lt_zero _)
  | k + 1 => conP_holds fun a b => by
    refine fun_meets0 (AllH.tok (.cons (eqfNds_of (same1_of (same_lt k))) (by kernel_rfl) .nil)) [] (by kernel_rfl) (by kernel_rfl) fun hpre => Eq.mpr (vcSameF k a b _) ⟨hpre _ rfl, qfin rfl rfl rfl rfl⟩
theorem same_holds : Holds 70 conSame := conP_holds fun a b => 
  Meets.nopre (ans := { pre := some (szNds a < szNds a + 1), res := .bool (eql eqNd a b) }) (same_lt (szNds a + 1) [.row .node a, .row .node b] [] _ rfl) (fun p hp => by injection hp with hp; subst hp; exact Nat.lt_succ_self _)
theorem edSame1_holds : Holds 47 conEdSame1 := conP_holds fun a b => by
  refine fun_meets0 (AllH.tok (.cons same_holds (by kernel_rfl) .nil)) [] (by kernel_rfl) (by kernel_rfl) fun hpre => Eq.mpr (vcEdSame1F a b _) (qfin rfl ?_ rfl rfl)
  rw [nd_eta, nd_eta]
  show [AV.bool (eql eqNd [a] [b])] = [AV.bool (eqNd a b)]
  simp [eql]
theorem edSameF_holds : Holds 45 conEdSameF := conP_holds fun a b => by
  refine fun_meets0 (AllH.tok (.cons eqIts_holds (by kernel_rfl) (.cons edSame1_holds (by kernel_rfl) .nil))) [] (by kernel_rfl) (by kernel_rfl) fun hpre => Eq.mpr (vcEdSameFF a b _) ?_
  rw [nd_eta, nd_eta, nd_eta, nd_eta]
  refine ⟨fun h1 => ⟨fun h2 => ⟨fun h3 => qfin rfl ?_ rfl rfl, fun h3 => qfin rfl ?_ rfl rfl⟩, fun h2 => qfin rfl ?_ rfl rfl⟩, fun h1 => qfin rfl ?_ rfl rfl⟩ <;>
  · show [AV.bool _] = [AV.bool (eqEd a b)]
    unfold eqEd
    simp only [*, Bool.true_and, Bool.false_and, Bool.and_false]
theorem eqfEds_holds : Holds 44 conEqfEds := conP_holds fun a b _ => by
  refine fun_meets1 (AllH.tok (.cons edSameF_holds (by kernel_rfl) .nil)) [] lsEqfEds (by kernel_rfl) (by kernel_rfl) eqfEds_sum fun hpre => Eq.mpr (vcEqfEdsF a b _) ?_
  exact eql_fun (t := .edit) (f := eqEd) (a := a) (b := b) (Q := FinQ _) _ rfl (qfin rfl rfl rfl rfl)
theorem edSame_holds : Holds 22 conEdSame := conP_holds fun a b => by
  refine fun_meets0 (AllH.tok (.cons eqfEds_holds (by kernel_rfl) .nil)) [] (by kernel_rfl) (by kernel_rfl) fun hpre => Eq.mpr (vcEdSameF a b _) (qfin rfl rfl rfl rfl)
end Go.Proofs.Ytmkjjopflncedaa.AX
end
section
namespace Go.Proofs.Ytmkjjopflncedaa.AXP
open Go Go.Proofs.Ytmkjjopflncedaa.AX
/-- A node put in at a place, if it is one. -/
def insAt (l : List Nd) (i : Int) (n : Nd) : List Nd := if (0 ≤ i && i ≤ (l.length : Int)) = true then l.take i.toNat ++ [n] ++ l.drop i.toNat else l
end Go.Proofs.Ytmkjjopflncedaa.AXP
namespace Go.Proofs.Ytmkjjopflncedaa.AX
open Go AXP
def conOne : Con := conP [.agg .node] fun (n : Nd) => { pre := some (fitNds [n]), res := .own 0 0, extra := [.rowb 0 .node [n]] }
noncomputable def cxOne1 : Cx := cxT (tabLook [(36, conCopy)])
noncomputable def cxInsF : Cx := cxT (tabLook [(87, conOne), (86, conIns)])
noncomputable def cxPutF : Cx := cxT (tabLook [(87, conOne), (92, conRepl)])
noncomputable def cxCutF : Cx := cxT (tabLook [(90, conDel .node)])
end Go.Proofs.Ytmkjjopflncedaa.AX
end
section
namespace Go.Proofs.Ytmkjjopflncedaa.AX
open Go AXP
set_option maxRecDepth 100000
theorem vcOneF (n : Nd) (Q : List AV → List Blk → List Blk → Prop) : (funA cxOne1 (LL Try.f87 []) Try.f87 [.agg (leaves .node n)] [] [] Q) = (
Rq (fitNds [Nd.mk n.1 n.2 n.3 n.4 n.5 n.6])
  (Q [AV.own (0 : Nat) (0 : Nat)] [] [Blk.rowb (0 : Nat) Ty.node [Nd.mk n.1 n.2 n.3 n.4 n.5 n.6]])) := by kernel_rfl
theorem vcInsF (xs : List Nd) (i : Int) (b : Bool) (n : Nd) (Q : List AV → List Blk → List Blk → Prop) : (funS cxInsF (LL Try.f85 []) Try.f85 [.own 0 0, .int .i64 i, .ptr 1 0, .ptr 2 0] [.rowb 0 .node xs, .box [.bool b], .box (nodeL n)] [.res 0, .slot 2, .slot 3] [] [] Q) = (
Br (decide (i ≥ (0 : Int)))
  (Gv (xs.length ≤ maxSl)
    (Br (!decide (i ≤ (↑xs.length : Int)))
      (Q [AV.own (0 : Nat) (0 : Nat)]
        [Blk.rowb (0 : Nat) Ty.node xs, Blk.box [AV.bool (decide (i ≤ (↑xs.length : Int)))],
          Blk.box
            [AV.int IntKind.i64 n.1, AV.int IntKind.i64 n.2, AV.str n.3, AV.row Ty.attr n.4, AV.str n.5,
              AV.row Ty.node n.6]]
        [])
      (Rq (fitNds [Nd.mk n.1 n.2 n.3 n.4 n.5 n.6])
        (Rq ((0 : Int) ≤ i ∧ i ≤ (↑xs.length : Int) ∧ (xs.length + (1 : Nat)) * (96 : Nat) ≤ maxSl)
          (Q [AV.own (0 : Nat) (0 : Nat)]
            [Blk.rowb (0 : Nat) Ty.node
                (List.take i.toNat xs ++ [Nd.mk n.1 n.2 n.3 n.4 n.5 n.6] ++ List.drop i.toNat xs),
              Blk.box [AV.bool (decide (i ≤ (↑xs.length : Int)))],
              Blk.box
                [AV.int IntKind.i64 n.1, AV.int IntKind.i64 n.2, AV.str n.3, AV.row Ty.attr n.4, AV.str n.5,
                  AV.row Ty.node n.6]]
            [])))))
  (Q [AV.own (0 : Nat) (0 : Nat)]
    [Blk.rowb (0 : Nat) Ty.node xs, Blk.box [AV.bool false],
      Blk.box
        [AV.int IntKind.i64 n.1, AV.int IntKind.i64 n.2, AV.str n.3, AV.row Ty.attr n.4, AV.str n.5,
          AV.row Ty.node n.6]]
    [])) := by kernel_rfl
theorem vcPutF (xs : List Nd) (i : Int) (n : Nd) (Q : List AV → List Blk → List Blk → Prop) : (funS cxPutF (LL Try.f91 []) Try.f91 [.own 0 0, .int .i64 i, .ptr 1 0] [.rowb 0 .node xs, .box (nodeL n)] [.res 0, .slot 2] [] [] Q) = (
Rq (fitNds [Nd.mk n.1 n.2 n.3 n.4 n.5 n.6])
  (Rq ((0 : Int) ≤ i ∧ i < (↑xs.length : Int) ∧ IntKind.i64.wrap (i + (1 : Int)) = i + (1 : Int))
    (Q [AV.own (0 : Nat) (0 : Nat)]
      [Blk.rowb (0 : Nat) Ty.node
          (List.take i.toNat xs ++ [Nd.mk n.1 n.2 n.3 n.4 n.5 n.6] ++ List.drop (i.toNat + (1 : Nat)) xs),
        Blk.box
          [AV.int IntKind.i64 n.1, AV.int IntKind.i64 n.2, AV.str n.3, AV.row Ty.attr n.4, AV.str n.5,
            AV.row Ty.node n.6]]
      []))) := by kernel_rfl
theorem vcCutF (xs : List Nd) (i : Int) (Q : List AV → List Blk → List Blk → Prop) : (funS cxCutF (LL Try.f89 []) Try.f89 [.own 0 0, .int .i64 i] [.rowb 0 .node xs] [.res 0] [] [] Q) = (
Rq ((0 : Int) ≤ i ∧ i < IntKind.i64.wrap (i + (1 : Int)) ∧ IntKind.i64.wrap (i + (1 : Int)) ≤ (↑xs.length : Int))
  (Q [AV.own (0 : Nat) (0 : Nat)]
    [Blk.rowb (0 : Nat) Ty.node (List.take i.toNat xs ++ List.drop (IntKind.i64.wrap (i + (1 : Int))).toNat xs)] [])) := by kernel_rfl
end Go.Proofs.Ytmkjjopflncedaa.AX
end
section
namespace Go.Proofs.Ytmkjjopflncedaa.AX
open Go Go.RowKit

/-- A slice's block lies between two numbers. -/
def Inn (v : Value) (lo hi : Nat) : Prop := lo ≤ hi ∧ ∀ b, v.ownBlock = some b → lo ≤ b ∧ b < hi
def atCells (a : List At) : List Value := a.flatMap fun x => [.string x.name, .string x.value]
def fitAts (a : List At) : Prop := ∀ x ∈ a, x.name.size ≤ maxSl ∧ x.value.size ≤ maxSl
mutual
def DNd (w : World) : Nd → List Value → Nat → Nat → Prop
  | ⟨k, s, n, a, t, c⟩, us, lo, hi => ∃ c3 c5 mid mid' kv, us = [.int .i64 k, .int .i64 s, .string n, c3, .string t, c5] ∧ n.size ≤ maxSl ∧ t.size ≤ maxSl ∧ fitAts a ∧ a.length ≤ maxSl ∧ w.ownsRow 0 95 2 c3 a.length (atCells a) ∧ Inn c3 lo mid ∧
      c.length ≤ maxSl ∧ Inn c5 mid mid' ∧ w.ownsRow 0 53 6 c5 c.length kv ∧ DNds w c kv mid' hi
def DNds (w : World) : List Nd → List Value → Nat → Nat → Prop
  | [], vs, lo, hi => vs = [] ∧ lo ≤ hi
  | x :: l, vs, lo, hi => ∃ us vs' mid, vs = us ++ vs' ∧ DNd w x us lo mid ∧ DNds w l vs' mid hi
end
def DRow (w : World) (c : List Nd) (v : Value) (lo hi : Nat) : Prop := ∃ mid vs, c.length ≤ maxSl ∧ Inn v lo mid ∧ w.ownsRow 0 53 6 v c.length vs ∧ DNds w c vs mid hi
theorem DNd_eq (w : World) (x : Nd) (us : List Value) (lo hi : Nat) : DNd w x us lo hi ↔ ∃ c3 c5 mid, us = [.int .i64 x.kind, .int .i64 x.space, .string x.name, c3, .string x.text, c5] ∧ x.name.size ≤ maxSl ∧ x.text.size ≤ maxSl ∧ fitAts x.attrs ∧ x.attrs.length ≤ maxSl ∧ w.ownsRow 0 95 2 c3 x.attrs.length (atCells x.attrs) ∧ Inn c3 lo mid ∧ DRow w x.kids c5 mid hi := by
  obtain ⟨k, s, n, a, t, c⟩ := x
  rw [DNd]
  constructor
  · rintro ⟨c3, c5, mid, mid', kv, h1, h2, h3, h4, h5, h6, h7, h8, h9, h10, h11⟩
    exact ⟨c3, c5, mid, h1, h2, h3, h4, h5, h6, h7, mid', kv, h8, h9, h10, h11⟩
  · rintro ⟨c3, c5, mid, h1, h2, h3, h4, h5, h6, h7, mid', kv, h8, h9, h10, h11⟩
    exact ⟨c3, c5, mid, mid', kv, h1, h2, h3, h4, h5, h6, h7, h8, h9, h10, h11⟩
theorem Inn.mono {v : Value} {lo hi lo' hi' : Nat} (h : Inn v lo hi) (h1 : lo' ≤ lo) (h2 : hi ≤ hi') : Inn v lo' hi' := ⟨by have := h.1; omega, fun b hb => by have := h.2 b hb; omega⟩
mutual
theorem DNd.le {w : World} : ∀ {x : Nd} {us : List Value} {lo hi : Nat}, DNd w x us lo hi → lo ≤ hi
  | ⟨k, s, n, a, t, c⟩, us, lo, hi, h => by
    rw [DNd] at h
    obtain ⟨c3, c5, mid, mid', kv, _, _, _, _, _, _, h7, _, h9, _, h11⟩ := h
    have := DNds.le h11
    have := h7.1
    have := h9.1
    omega
theorem DNds.le {w : World} : ∀ {l : List Nd} {vs : List Value} {lo hi : Nat}, DNds w l vs lo hi → lo ≤ hi
  | [], vs, lo, hi, h => by rw [DNds] at h; exact h.2
  | x :: l, vs, lo, hi, h => by
    rw [DNds] at h
    obtain ⟨us, vs', mid, _, h1, h2⟩ := h
    exact Nat.le_trans (DNd.le h1) (DNds.le h2)
end
theorem DRow.le {w : World} {c : List Nd} {v : Value} {lo hi : Nat} (h : DRow w c v lo hi) : lo ≤ hi := by
  obtain ⟨mid, vs, _, h1, _, h2⟩ := h
  exact Nat.le_trans h1.1 h2.le
mutual
theorem DNd.mono {w w' : World} : ∀ {x : Nd} {us : List Value} {lo hi : Nat}, (∀ b, lo ≤ b → b < hi → w'.heap[b]? = w.heap[b]?) → DNd w x us lo hi → DNd w' x us lo hi
  | ⟨k, s, n, a, t, c⟩, us, lo, hi, hw, h => by
    rw [DNd] at h ⊢
    obtain ⟨c3, c5, mid, mid', kv, h1, h2, h3, h4, h5, h6, h7, h8, h9, h10, h11⟩ := h
    have l1 := DNds.le h11
    have l2 := h7.1
    have l3 := h9.1
    exact ⟨c3, c5, mid, mid', kv, h1, h2, h3, h4, h5, ownsRow_mono h6 (fun b hb => hw b (h7.2 b hb).1 (by have := (h7.2 b hb).2; omega)), h7, h8, h9, ownsRow_mono h10 (fun b hb => hw b (by have := (h9.2 b hb).1; omega) (by have := (h9.2 b hb).2; omega)), DNds.mono (fun b h1 h2 => hw b (by omega) h2) h11⟩
theorem DNds.mono {w w' : World} : ∀ {l : List Nd} {vs : List Value} {lo hi : Nat}, (∀ b, lo ≤ b → b < hi → w'.heap[b]? = w.heap[b]?) → DNds w l vs lo hi → DNds w' l vs lo hi
  | [], vs, lo, hi, _, h => by rw [DNds] at h ⊢; exact h
  | x :: l, vs, lo, hi, hw, h => by
    rw [DNds] at h ⊢
    obtain ⟨us, vs', mid, h0, h1, h2⟩ := h
    have l1 := DNd.le h1
    have l2 := DNds.le h2
    exact ⟨us, vs', mid, h0, DNd.mono (fun b h1 h2 => hw b h1 (by omega)) h1, DNds.mono (fun b h1 h2 => hw b (by omega) h2) h2⟩
end
theorem DRow.mono {w w' : World} {c : List Nd} {v : Value} {lo hi : Nat} (hw : ∀ b, lo ≤ b → b < hi → w'.heap[b]? = w.heap[b]?) (h : DRow w c v lo hi) : DRow w' c v lo hi := by
  obtain ⟨mid, vs, h0, h1, h2, h3⟩ := h
  have := h3.le
  have := h1.1
  exact ⟨mid, vs, h0, h1, ownsRow_mono h2 (fun b hb => hw b (h1.2 b hb).1 (by have := (h1.2 b hb).2; omega)), h3.mono fun b h1 h2 => hw b (by omega) h2⟩
theorem DNds.up {w : World} : ∀ {l : List Nd} {vs : List Value} {lo hi hi' : Nat}, DNds w l vs lo hi → hi ≤ hi' → DNds w l vs lo hi'
  | [], vs, lo, hi, hi', h, h' => by rw [DNds] at h ⊢; exact ⟨h.1, by omega⟩
  | x :: l, vs, lo, hi, hi', h, h' => by
    rw [DNds] at h ⊢
    obtain ⟨us, vs', mid, h0, h1, h2⟩ := h
    exact ⟨us, vs', mid, h0, h1, DNds.up h2 h'⟩
theorem DRow.up {w : World} {c : List Nd} {v : Value} {lo hi lo' hi' : Nat} (h : DRow w c v lo hi) (h1 : lo' ≤ lo) (h2 : hi ≤ hi') : DRow w c v lo' hi' := by
  obtain ⟨mid, vs, a0, a1, a2, a3⟩ := h
  exact ⟨mid, vs, a0, a1.mono h1 (Nat.le_refl _), a2, a3.up h2⟩
theorem DNds.snoc {w : World} : ∀ {l : List Nd} {vs us : List Value} {x : Nd} {lo mid hi : Nat}, DNds w l vs lo mid → DNd w x us mid hi → DNds w (l ++ [x]) (vs ++ us) lo hi
  | [], vs, us, x, lo, mid, hi, h, h' => by
    rw [DNds] at h
    obtain ⟨rfl, hle⟩ := h
    rw [List.nil_append, List.nil_append, DNds]
    refine ⟨us, [], hi, by simp, ?_, by rw [DNds]; exact ⟨rfl, Nat.le_refl _⟩⟩
    rw [DNd_eq] at h' ⊢
    obtain ⟨c3, c5, m, a1, a2, a3, a4, a5, a6, a7, a8⟩ := h'
    exact ⟨c3, c5, m, a1, a2, a3, a4, a5, a6, a7.mono hle (Nat.le_refl _), a8⟩
  | y :: l, vs, us, x, lo, mid, hi, h, h' => by
    rw [DNds] at h
    obtain ⟨us0, vs', m, rfl, h1, h2⟩ := h
    rw [List.cons_append, DNds]
    exact ⟨us0, vs' ++ us, m, by rw [List.append_assoc], h1, DNds.snoc h2 h'⟩
theorem DNds.len {w : World} : ∀ {l : List Nd} {vs : List Value} {lo hi : Nat}, DNds w l vs lo hi → vs.length = l.length * 6
  | [], vs, lo, hi, h => by rw [DNds] at h; rw [h.1]; rfl
  | x :: l, vs, lo, hi, h => by
    rw [DNds] at h
    obtain ⟨us, vs', mid, rfl, h1, h2⟩ := h
    rw [DNd_eq] at h1
    obtain ⟨c3, c5, m, rfl, _⟩ := h1
    rw [List.length_append, DNds.len h2, List.length_cons]
    simp only [List.length_cons, List.length_nil]; omega
/-- An element. -/
theorem DNds.at {w : World} : ∀ {l : List Nd} {vs : List Value} {lo hi : Nat} {i : Nat} (hi' : i < l.length), DNds w l vs lo hi → ∃ a b, lo ≤ a ∧ a ≤ b ∧ b ≤ hi ∧ DNd w l[i] ((vs.drop (i * 6)).take 6) a b ∧ DNds w (l.take i) (vs.take (i * 6)) lo a ∧ DNds w (l.drop (i + 1)) (vs.drop ((i + 1) * 6)) b hi
  | x :: l, vs, lo, hi, 0, _, h => by
    rw [DNds] at h
    obtain ⟨us, vs', mid, rfl, h1, h2⟩ := h
    have hl : us.length = 6 := by
      rw [DNd_eq] at h1
      obtain ⟨c3, c5, m, rfl, _⟩ := h1
      rfl
    refine ⟨lo, mid, Nat.le_refl _, h1.le, h2.le, ?_, ?_, ?_⟩
    · simp only [Nat.zero_mul, List.drop_zero, List.getElem_cons_zero]
      rw [List.take_left' hl]; exact h1
    · simp only [Nat.zero_mul, List.take_zero]; rw [DNds]; exact ⟨rfl, Nat.le_refl _⟩
    · simp only [Nat.zero_add, Nat.one_mul, List.drop_succ_cons, List.drop_zero]
      rw [List.drop_left' hl]; exact h2
  | x :: l, vs, lo, hi, i + 1, hi', h => by
    rw [DNds] at h
    obtain ⟨us, vs', mid, rfl, h1, h2⟩ := h
    have hl : us.length = 6 := by
      rw [DNd_eq] at h1
      obtain ⟨c3, c5, m, rfl, _⟩ := h1
      rfl
    obtain ⟨a, b, g1, g2, g3, g4, g5, g6⟩ := DNds.at (i := i) (by simpa using hi') h2
    have d1 : ∀ j, (us ++ vs').drop ((j + 1) * 6) = vs'.drop (j * 6) := fun j => by
      rw [show (j + 1) * 6 = us.length + j * 6 by omega, List.drop_append]
      simp
    refine ⟨a, b, Nat.le_trans h1.le g1, g2, g3, ?_, ?_, ?_⟩
    · rw [d1]; simpa using g4
    · rw [show (i + 1) * 6 = us.length + i * 6 by omega, List.take_append]
      simp only [List.take_succ_cons]
      rw [DNds]
      exact ⟨us, vs'.take (i * 6), mid, by rw [List.take_of_length_le (by omega), Nat.add_sub_cancel_left], h1, g5⟩
    · rw [d1]; simpa using g6
section
variable {w : World} {O : Nat → Prop} {I : Im}
/-- A row of its own that is only read from here on. -/
theorem row_of_owns {t : Ty} {v : Value} {xs : List (den t)} {vs : List Value} {e : TypeId} (h : w.ownsRow 0 e (width t) v xs.length vs) (hall : All2 (LeafR w O I) vs (cellsOf t xs)) (hO : ∀ b, v.ownBlock = some b → ¬ O b) (hm : xs.length ≤ maxSl) : LeafR w O I v (.row t xs) := by
  rcases h.2 with ⟨rfl, hz⟩ | ⟨g, cap, cur, rfl, _, hg, hn, _⟩
  · rw [List.eq_nil_of_length_eq_zero hz]; exact .row0 t
  · refine .row g 0 cap t xs vs (fun _ => hO g rfl) hn hm (fun j u hu => ?_) hall.length (fun j u x hu hx => ?_)
    · have := h.cells (g := g) rfl j u hu
      simpa [Addr.add_lit] using this
    · obtain ⟨y, hy, hr⟩ := hall.get' hu
      rw [hx] at hy; injection hy with hy; subst hy; exact hr
theorem atCells_R {a : List At} (h : fitAts a) : All2 (LeafR w O I) (atCells a) (cellsOf .attr a) := by
  induction a with
  | nil => exact .nil
  | cons x a ih =>
    have := h x (.head _)
    exact .cons (.str _ this.1) (.cons (.str _ this.2) (ih fun y hy => h y (.tail _ hy)))
theorem atCells_of {us : List Value} : ∀ {a : List At}, All2 (LeafR w O I) us (cellsOf .attr a) → us = atCells a ∧ fitAts a := by
  intro a
  induction a generalizing us with
  | nil => intro h; cases h; exact ⟨rfl, fun x hx => (nomatch hx)⟩
  | cons x a ih =>
    intro h
    cases (show All2 (LeafR w O I) us (.str x.name :: .str x.value :: cellsOf .attr a) from h) with | cons h1 h =>
    cases h with | cons h2 h =>
    obtain ⟨e, hf⟩ := ih h
    cases h1 with | str _ s1 => cases h2 with | str _ s2 =>
    refine ⟨by rw [e]; rfl, fun y hy => ?_⟩
    cases hy with
    | head => exact ⟨s1, s2⟩
    | tail _ hy => exact hf y hy
mutual
theorem DNd.leaf : ∀ {x : Nd} {us : List Value} {lo hi : Nat}, DNd w x us lo hi → (∀ b, lo ≤ b → b < hi → ¬ O b) → All2 (LeafR w O I) us (nodeL x)
  | ⟨k, s, n, a, t, c⟩, us, lo, hi, h, hO => by
    rw [DNd] at h
    obtain ⟨c3, c5, mid, mid', kv, rfl, h2, h3, h4, h5, h6, h7, h8, h9, h10, h11⟩ := h
    have l1 := DNds.le h11
    have l2 := h7.1
    have l3 := h9.1
    refine .cons (.int _ _) (.cons (.int _ _) (.cons (.str _ h2) (.cons (row_of_owns (t := .attr) h6 (atCells_R h4) (fun b hb => hO b (h7.2 b hb).1 (by have := (h7.2 b hb).2; omega)) h5) (.cons (.str _ h3) (.cons ?_ .nil)))))
    exact row_of_owns (t := .node) h10 (DNds.leaf h11 fun b h1 h2 => hO b (by omega) h2) (fun b hb => hO b (by have := (h9.2 b hb).1; omega) (by have := (h9.2 b hb).2; omega)) h8
theorem DNds.leaf : ∀ {l : List Nd} {vs : List Value} {lo hi : Nat}, DNds w l vs lo hi → (∀ b, lo ≤ b → b < hi → ¬ O b) → All2 (LeafR w O I) vs (cellsOf .node l)
  | [], vs, lo, hi, h, hO => by rw [DNds] at h; rw [h.1]; exact .nil
  | x :: l, vs, lo, hi, h, hO => by
    rw [DNds] at h
    obtain ⟨us, vs', mid, rfl, h1, h2⟩ := h
    have l1 := DNd.le h1
    have l2 := DNds.le h2
    exact (DNd.leaf h1 fun b h1 h2 => hO b h1 (by omega)).append (DNds.leaf h2 fun b h1 h2 => hO b (by omega) h2)
end
theorem DRow.leaf {c : List Nd} {v : Value} {lo hi : Nat} (h : DRow w c v lo hi) (hO : ∀ b, lo ≤ b → b < hi → ¬ O b) : LeafR w O I v (.row .node c) := by
  obtain ⟨mid, vs, h0, h1, h2, h3⟩ := h
  have := h3.le
  have := h1.1
  exact row_of_owns (t := .node) h2 (h3.leaf fun b h1 h2 => hO b (by omega) h2) (fun b hb => hO b (h1.2 b hb).1 (by have := (h1.2 b hb).2; omega)) h0
end
end Go.Proofs.Ytmkjjopflncedaa.AX
end
section
namespace Go.Proofs.Ytmkjjopflncedaa.AX
open Go Go.Shelf Go.RowKit AXP
set_option linter.unusedVariables false
set_option linter.unusedSimpArgs false
def noO : Nat → Prop := fun _ => False
def noI : Im := fun _ => none
theorem own_no : ∀ b, ¬ Own noO noI b := fun b h => by
  rcases h with h | ⟨_, _, h, _⟩
  · exact h
  · cases h
theorem hrel_no (tid : Ty → TypeId) (w : World) : HRel tid noO noI ([].map some) w := ⟨fun id => rfl, fun i j l l' b h => (nomatch h), fun i l b h => (nomatch h), fun i l b h => (nomatch h), fun b h => h.elim⟩
/-- A call that takes no memory over answers a row of its own, in new memory. -/
theorem fresh_row {f : Nat} {x : AV} {t : Ty} {xs : List (den t)} {w : World} {v : Value} {pre : Option Prop} (h : Meets cx0 f [x] [] { pre := pre, res := .own 0 0, extra := [.rowb 0 t xs] }) (hpre : ∀ p, pre = some p → p) (hv : LeafR w (Own noO noI) noI v x) :
    Calls Try.prog f #[v] w fun e w' => ∃ v' vs, e = .returned v' ∧ w'.ownsRow 0 (cx0.tid t) (width t) v' xs.length vs ∧ xs.length ≤ maxSl ∧ All2 (LeafR w' (fun b => v'.ownBlock = some b) noI) vs (cellsOf t xs) ∧ w.grownBy w' none ∧ Inn v' w.heap.size w'.heap.size := by
  refine (h noO noI w [v] (hrel_no _ w) (.cons (.leaf hv) .nil) hpre).mono ?_
  rintro e w' ⟨v', I', rfl, hres, hH, _, _, hplace, hos, htape, hout, hsz, hkept⟩
  obtain ⟨l0, hl0, v2, vs, rfl, hmx, hown, hall⟩ := hH.hp 0
  have e1 := ((ValR.own hres).2.2 _ _ _ hl0).2 rfl
  subst e1
  refine ⟨v', vs, rfl, hown, hmx, .of hall.length fun j u x hu hx => ?_, ⟨hos, htape, hout, hsz, fun k hk _ => hkept k hk fun i l hi => (nomatch hi)⟩, hsz, fun b hb => ⟨?_, hH.lt 0 _ b hl0 hb⟩⟩
  · obtain ⟨y, hy, hr⟩ := hall.get' hu
    rw [hx] at hy; injection hy with hy; subst hy
    exact hr.pure (fun b hb => .inr ⟨0, _, hl0, hb⟩) (pure_cells t xs x (List.mem_of_getElem? hx))
  · rcases hplace 0 _ b hl0 hb with ⟨_, _, h, _⟩ | h
    · cases h
    · exact h
theorem leaf_up {w w' : World} {v : Value} {x : AV} (hg : w.grownBy w' none) (h : LeafR w noO noI v x) : LeafR w' noO noI v x := h.mono (fun b _ hb => hg.block b hb (fun e => nomatch e)) (fun _ _ h => h) (ImLe.refl _)
end Go.Proofs.Ytmkjjopflncedaa.AX
end
section
namespace Go.Proofs.Ytmkjjopflncedaa.AX
open Go Go.Shelf Go.RowKit AXP
set_option linter.unusedVariables false
set_option linter.unusedSimpArgs false
theorem own_no' {w : World} {v : Value} {x : AV} (h : LeafR w noO noI v x) : LeafR w (Own noO noI) noI v x := h.mono (fun _ _ _ => rfl) (fun b _ hb => (own_no b hb).elim) (ImLe.refl _)
def ownO (A : Option Addr) (b : Nat) : Prop := A.map (·.block) = some b
theorem ownO_eq {A : Option Addr} {n c b : Nat} : (Value.slice A n c).ownBlock = some b ↔ ownO A b := by cases A <;> simp [ownO, Value.ownBlock]
/-- What a loop's round finds: the first i elements' lists copied, the others' as they were. -/
structure CpI (w wr : World) (l : List Nd) (A : Option Addr) (cap i : Nat) : Prop where
  grown : w.grownBy wr none
  row : ∃ vs lo, wr.ownsRow 0 53 6 (.slice A l.length cap) l.length vs ∧ Inn (.slice A l.length cap) w.heap.size lo ∧ DNds wr (l.take i) (vs.take (i * 6)) lo wr.heap.size ∧ All2 (LeafR wr (ownO A) noI) (vs.drop (i * 6)) (cellsOf .node (l.drop i))
theorem ownsRow_set {w : World} {g c n z j : Nat} {e : TypeId} {vs : List Value} {u : Value} (h : w.ownsRow 0 e z (.slice (some ⟨g, 0, none⟩) n c) n vs) (hj : j < vs.length) : (w.setCell ⟨g, j, none⟩ u).ownsRow 0 e z (.slice (some ⟨g, 0, none⟩) n c) n (vs.set j u) := by
  obtain ⟨h0, h1 | ⟨g', cap, cur, e1, _, hg, hn, hcm, hcs, ht⟩⟩ := h
  · exact absurd h1.1 (fun e => nomatch e)
  · cases e1
    rw [setCell_eq_setRow w g j cur e (0, 0) u hg]
    refine ⟨by rw [List.length_set]; exact h0, .inr ⟨g, c, _, rfl, Nat.zero_le _, setRow_heap w g cur _ e _ hg, hn, hcm, by simpa using hcs, ?_⟩⟩
    rw [Array.toList_setIfInBounds, ← ht, List.take_set]
theorem setCell_ne (w : World) (g j k : Nat) (u : Value) (h : k ≠ g) : (w.setCell ⟨g, j, none⟩ u).heap[k]? = w.heap[k]? := by
  simp only [World.setCell]
  rw [Array.getElem?_modify, if_neg (Ne.symm h)]
theorem setCell_size (w : World) (a : Addr) (u : Value) : (w.setCell a u).heap.size = w.heap.size := by simp [World.setCell]
theorem grown_trans {a b c : World} (h : a.grownBy b none) (h' : b.grownBy c none) : a.grownBy c none := ⟨h'.os.trans h.os, h'.tape.trans h.tape, h'.output.trans h.output, Nat.le_trans h.size h'.size, fun k hk hn => (h'.block k (Nat.lt_of_lt_of_le hk h.size) hn).trans (h.block k hk hn)⟩
theorem grown_set {a b : World} (h : a.grownBy b none) {g j : Nat} {u : Value} (hg : a.heap.size ≤ g) : a.grownBy (b.setCell ⟨g, j, none⟩ u) none := ⟨h.os, h.tape, h.output, by rw [setCell_size]; exact h.size, fun k hk hn => (setCell_ne b g j k u (by omega)).trans (h.block k hk hn)⟩
theorem nodeL_inv {w : World} {O : Nat → Prop} {I : Im} {us : List Value} {x : Nd} (h : All2 (LeafR w O I) us (nodeL x)) : ∃ c3 c5, us = [.int .i64 x.kind, .int .i64 x.space, .string x.name, c3, .string x.text, c5] ∧ x.name.size ≤ maxSl ∧ x.text.size ≤ maxSl ∧ LeafR w O I c3 (.row .attr x.attrs) ∧ LeafR w O I c5 (.row .node x.kids) := by
  unfold nodeL at h
  cases h with | cons h0 h => cases h with | cons h1 h => cases h with | cons h2 h => cases h with | cons h3 h => cases h with | cons h4 h => cases h with | cons h5 h =>
  cases h
  cases h0; cases h1; cases h2 with | str _ a => cases h4 with | str _ b =>
  exact ⟨_, _, rfl, a, b, h3, h5⟩
theorem CpI.at {w wr : World} {l : List Nd} {A : Option Addr} {cap i : Nat} (h : CpI w wr l A cap i) (hi : i < l.length) : ∃ g c3 c5, A = some ⟨g, 0, none⟩ ∧ w.heap.size ≤ g ∧ g < wr.heap.size ∧ wr.cell? ⟨g, i * 6 + 3, none⟩ = some c3 ∧ wr.frozen? ⟨g, i * 6 + 3, none⟩ = false ∧ wr.cell? ⟨g, i * 6 + 5, none⟩ = some c5 ∧ wr.frozen? ⟨g, i * 6 + 5, none⟩ = false ∧
    LeafR wr noO noI c3 (.row .attr l[i].attrs) ∧ LeafR wr (ownO A) noI c5 (.row .node l[i].kids) := by
  obtain ⟨vs, lo, h1, h2, h3, h4⟩ := h.row
  rcases h1.2 with ⟨_, hz⟩ | ⟨g, cap', cur, e1, _, hg, hn, hcm, hcs, ht⟩
  · omega
  cases e1
  have hus : All2 (LeafR wr (ownO (some ⟨g, 0, none⟩)) noI) ((vs.drop (i * 6)).take 6) (nodeL l[i]) := by
    have := h4.take 6
    rw [List.drop_eq_getElem_cons hi] at this
    exact this
  obtain ⟨c3, c5, hus, _, _, hc3, hc5⟩ := nodeL_inv hus
  have get : ∀ j, j < 6 → vs[i * 6 + j]? = ((vs.drop (i * 6)).take 6)[j]? := fun j hj => by rw [List.getElem?_take, if_pos hj, List.getElem?_drop]
  have e3 : vs[i * 6 + 3]? = some c3 := by rw [get 3 (by omega), hus]; rfl
  have e5 : vs[i * 6 + 5]? = some c5 := by rw [get 5 (by omega), hus]; rfl
  have hc := h1.cells (g := g) rfl
  have x3 := hc _ _ e3
  have x5 := hc _ _ e5
  rw [Addr.add_lit, Nat.zero_add] at x3 x5
  exact ⟨g, c3, c5, rfl, (h2.2 g rfl).1, (Array.getElem?_eq_some_iff.1 hg).1, x3, frozen_of hg _, x5, frozen_of hg _, hc3.mono (fun _ _ _ => rfl) (fun b _ hb => hb.elim) (ImLe.refl _), hc5⟩
theorem CpI.step {w wr w2 w4 : World} {l : List Nd} {g cap i : Nat} {v3 v5 : Value} (h : CpI w wr l (some ⟨g, 0, none⟩) cap i) (hi : i < l.length) (hg2 : wr.grownBy w2 none) (hf : fitAts l[i].attrs) (hl3 : l[i].attrs.length ≤ maxSl) (h3 : w2.ownsRow 0 95 2 v3 l[i].attrs.length (atCells l[i].attrs)) (hi3 : Inn v3 wr.heap.size w2.heap.size)
    (hg4 : (w2.setCell ⟨g, i * 6 + 3, none⟩ v3).grownBy w4 none) (hd : DRow w4 l[i].kids v5 w2.heap.size w4.heap.size) : CpI w (w4.setCell ⟨g, i * 6 + 5, none⟩ v5) l (some ⟨g, 0, none⟩) cap (i + 1) := by
  obtain ⟨vs, lo, h1, h2, h5, h6⟩ := h.row
  have hgw := (h2.2 g rfl).1
  have hglo := (h2.2 g rfl).2
  have hlo := h5.le
  have hvl : vs.length = l.length * 6 := h1.1
  have hgr : g < wr.heap.size := by omega
  have hs3 : (w2.setCell ⟨g, i * 6 + 3, none⟩ v3).heap.size = w2.heap.size := setCell_size _ _ _
  have hz24 : w2.heap.size ≤ w4.heap.size := by have := hg4.size; omega
  have hz2 := hg2.size
  have o2 : w2.ownsRow 0 53 6 (.slice (some ⟨g, 0, none⟩) l.length cap) l.length vs := ownsRow_mono h1 fun b hb => hg2.block b (by have := h2.2 b hb; omega) (fun e => nomatch e)
  have o3 := ownsRow_set (u := v3) o2 (j := i * 6 + 3) (by omega)
  have o4 : w4.ownsRow 0 53 6 (.slice (some ⟨g, 0, none⟩) l.length cap) l.length (vs.set (i * 6 + 3) v3) := ownsRow_mono o3 fun b hb => hg4.block b (by rw [hs3]; have := h2.2 b hb; omega) (fun e => nomatch e)
  have o5 := ownsRow_set (u := v5) o4 (j := i * 6 + 5) (by rw [List.length_set]; omega)
  have far : ∀ b, b < wr.heap.size → b ≠ g → (w4.setCell ⟨g, i * 6 + 5, none⟩ v5).heap[b]? = wr.heap[b]? := fun b hb hne => by
    rw [setCell_ne _ _ _ _ _ hne, hg4.block b (by omega) (fun e => nomatch e), setCell_ne _ _ _ _ _ hne, hg2.block b hb (fun e => nomatch e)]
  have far2 : ∀ b, b < w2.heap.size → b ≠ g → (w4.setCell ⟨g, i * 6 + 5, none⟩ v5).heap[b]? = w2.heap[b]? := fun b hb hne => by
    rw [setCell_ne _ _ _ _ _ hne, hg4.block b (by omega) (fun e => nomatch e), setCell_ne _ _ _ _ _ hne]
  have hus : All2 (LeafR wr (ownO (some ⟨g, 0, none⟩)) noI) ((vs.drop (i * 6)).take 6) (nodeL l[i]) := by
    have := h6.take 6
    rw [List.drop_eq_getElem_cons hi] at this
    exact this
  obtain ⟨c3, c5, hus, hn1, hn2, _, _⟩ := nodeL_inv hus
  have ht1 : ((vs.set (i * 6 + 3) v3).set (i * 6 + 5) v5).take (i * 6) = vs.take (i * 6) := by
    rw [List.take_set_of_le (by omega), List.take_set_of_le (by omega)]
  have hd1 : ((vs.set (i * 6 + 3) v3).set (i * 6 + 5) v5).drop ((i + 1) * 6) = vs.drop ((i + 1) * 6) := by
    rw [List.drop_set_of_lt (by omega), List.drop_set_of_lt (by omega)]
  have hm1 : (((vs.set (i * 6 + 3) v3).set (i * 6 + 5) v5).drop (i * 6)).take 6 = [.int .i64 l[i].kind, .int .i64 l[i].space, .string l[i].name, v3, .string l[i].text, v5] := by
    rw [List.drop_set, if_neg (by omega), List.drop_set, if_neg (by omega), List.take_set, List.take_set, hus, show i * 6 + 3 - i * 6 = 3 by omega, show i * 6 + 5 - i * 6 = 5 by omega]
    rfl
  have ht2 : ((vs.set (i * 6 + 3) v3).set (i * 6 + 5) v5).take ((i + 1) * 6) = vs.take (i * 6) ++ [.int .i64 l[i].kind, .int .i64 l[i].space, .string l[i].name, v3, .string l[i].text, v5] := by
    rw [show (i + 1) * 6 = i * 6 + 6 by omega, List.take_add, ht1, hm1]
  refine ⟨grown_set (grown_trans (grown_set (grown_trans h.grown hg2) hgw) hg4) hgw, _, lo, o5, h2, ?_, ?_⟩
  · rw [ht2, ← List.take_append_getElem hi, setCell_size]
    refine DNds.snoc (mid := wr.heap.size) (h5.mono fun b h1 h2 => far b h2 (by omega)) ?_
    rw [DNd_eq]
    refine ⟨v3, v5, w2.heap.size, rfl, hn1, hn2, hf, hl3, ownsRow_mono h3 fun b hb => far2 b (hi3.2 b hb).2 (by have := (hi3.2 b hb).1; omega), hi3, hd.mono fun b h1 h2 => setCell_ne _ _ _ _ _ (by omega)⟩
  · rw [hd1]
    have := h6.drop 6
    rw [List.drop_drop, List.drop_eq_getElem_cons hi] at this
    rw [show (i + 1) * 6 = i * 6 + 6 by omega]
    refine All2.mono (fun v x hx => hx.mono (fun b hb hlt => far b hlt fun e => hb (by rw [e]; rfl)) (fun _ _ h => h) (ImLe.refl _)) this
set_option maxHeartbeats 8000000 in
set_option maxRecDepth 1000000 in
theorem copy_deep : ∀ (k : Nat) (l : List Nd) (w : World) (v : Value), szNds l < k → fitNds l → LeafR w noO noI v (.row .node l) → Calls Try.prog 36 #[v] w fun e w' => ∃ v', e = .returned v' ∧ DRow w' l v' w.heap.size w'.heap.size ∧ w.grownBy w' none
  | 0, l, w, v, h, _, _ => absurd h (Nat.not_lt_zero _)
  | k + 1, l, w, v, hk, hf, hv => by
    have HC : Calls Try.prog 60 #[v] w fun e w1 => ∃ A cap, e = .returned (.slice A l.length cap) ∧ Hid (CpI w w1 l A cap 0) := by
      refine (fresh_row (cloneNds_holds [.row .node l] [] (cloneAns .node 96 l) rfl) (fun p hp => by injection hp with hp; subst hp; exact fit_len hf) (own_no' hv)).mono ?_
      rintro e w1 ⟨v1, vs, rfl, hown, hmx, hall, hgr, hinn⟩
      obtain ⟨A, cap, rfl⟩ : ∃ A cap, v1 = .slice A l.length cap := by
        rcases hown.2 with ⟨rfl, hz⟩ | ⟨g, cap, cur, rfl, _⟩
        · rw [hz]; exact ⟨none, 0, rfl⟩
        · exact ⟨_, _, rfl⟩
      exact ⟨A, cap, rfl, (⟨hgr, vs, w1.heap.size, hown, hinn, by rw [List.take_zero, Nat.zero_mul, List.take_zero, DNds]; exact ⟨rfl, Nat.le_refl _⟩, hall.mono fun v x h => h.mono (fun _ _ _ => rfl) (fun b _ hb => ownO_eq.2 hb) (ImLe.refl _)⟩ : CpI w w1 l A cap 0)⟩
    have HC' : Hid (Calls Try.prog 60 #[v] w _) := HC
    have h63 : l.length ≤ 140737488355328 := by have := fit_len hf; unfold maxSl at this; omega
    have HK : Hid (szNds l < k + 1) := hk
    have HF : Hid (fitNds l) := hf
    clear HC hk hf hv
    go_enter Try.func36, Try.ntmps36
    go_wp2_with (go_at_call 60; refine HC'.out.mono ?_; rintro e w1 ⟨A, cap, rfl, HI⟩)
    go_loopg [4, 9] l.length (fun gg _ s9 wr => ∃ i : Nat, i ≤ l.length ∧ l.length - i ≤ gg ∧ s9 = .int .i64 i ∧ Hid (CpI w wr l A cap i))
    case atStart => exact ⟨0, Nat.zero_le _, by omega, rfl, HI⟩
    case round =>
      obtain ⟨i, hi, hg, rfl, HB⟩ := hrel
      by_cases hlt : i < l.length
      · have hltz : ((i : Int) < (l.length : Int)) := by omega
        have p0 : (0 : Int) ≤ (i : Int) := by omega
        obtain ⟨g, c3, c5, rfl, hgw, hgr, x3, f3, x5, f5, hc3, hc5⟩ := HB.out.at hlt
        have hfi := (fit_eq _).1 (fit_at hlt HF.out)
        have hszk : szNds l[i].kids < k := Nat.lt_of_lt_of_le (szNds_kids hlt) (Nat.le_of_lt_succ HK.out)
        have HA : Hid (Calls Try.prog 61 #[c3] wr fun e w2 => ∃ A3 cap3, e = .returned (.slice A3 l[i].attrs.length cap3) ∧ w2.cell? ⟨g, i * 6 + 3, none⟩ = some c3 ∧ w2.frozen? ⟨g, i * 6 + 3, none⟩ = false ∧ w2.cell? ⟨g, i * 6 + 5, none⟩ = some c5 ∧
            Hid (Calls Try.prog 36 #[c5] (w2.setCell ⟨g, i * 6 + 3, none⟩ (.slice A3 l[i].attrs.length cap3)) fun e w4 => ∃ A5 cap5, e = .returned (.slice A5 l[i].kids.length cap5) ∧ w4.cell? ⟨g, i * 6 + 5, none⟩ = some c5 ∧ w4.frozen? ⟨g, i * 6 + 5, none⟩ = false ∧
              Hid (CpI w (w4.setCell ⟨g, i * 6 + 5, none⟩ (.slice A5 l[i].kids.length cap5)) l (some ⟨g, 0, none⟩) cap (i + 1)))) := by
          refine (fresh_row (cloneAts_holds [.row .attr l[i].attrs] [] (cloneAns .attr 32 l[i].attrs) rfl) (fun p hp => by injection hp with hp; subst hp; exact hfi.1) (own_no' hc3)).mono ?_
          rintro e w2 ⟨v3, av, rfl, hown3, hm3, hall3, hg2, hi3⟩
          obtain ⟨A3, cap3, rfl⟩ : ∃ A3 cap3, v3 = .slice A3 l[i].attrs.length cap3 := by
            rcases hown3.2 with ⟨rfl, hz⟩ | ⟨_, cap, _, rfl, _⟩
            · rw [hz]; exact ⟨none, 0, rfl⟩
            · exact ⟨_, _, rfl⟩
          obtain ⟨hav, hfa⟩ := atCells_of hall3
          rw [hav] at hown3
          have b2 : ∀ b, b < wr.heap.size → w2.heap[b]? = wr.heap[b]? := fun b hb => hg2.block b hb (fun e => nomatch e)
          refine ⟨A3, cap3, rfl, (World.cell?_of_block (b2 g hgr)).trans x3, (World.frozen?_of_block (b2 g hgr)).trans f3, (World.cell?_of_block (b2 g hgr)).trans x5, ?_⟩
          have hc5' : LeafR (w2.setCell ⟨g, i * 6 + 3, none⟩ (.slice A3 l[i].attrs.length cap3)) noO noI c5 (.row .node l[i].kids) := hc5.mono (fun b hb hlt => (setCell_ne _ _ _ _ _ fun e => hb (by rw [e]; rfl)).trans (b2 b hlt)) (fun b _ hb => hb.elim) (ImLe.refl _)
          refine (copy_deep k l[i].kids _ c5 hszk hfi.2 hc5').mono ?_
          rintro e w4 ⟨v5, rfl, hd, hg4⟩
          obtain ⟨A5, cap5, rfl⟩ : ∃ A5 cap5, v5 = .slice A5 l[i].kids.length cap5 := by
            obtain ⟨_, _, _, _, ho, _⟩ := hd
            rcases ho.2 with ⟨rfl, hz⟩ | ⟨_, cap, _, rfl, _⟩
            · rw [hz]; exact ⟨none, 0, rfl⟩
            · exact ⟨_, _, rfl⟩
          have b4 : w4.heap[g]? = (w2.setCell ⟨g, i * 6 + 3, none⟩ (.slice A3 l[i].attrs.length cap3)).heap[g]? := hg4.block g (by rw [setCell_size]; have := hg2.size; omega) (fun e => nomatch e)
          refine ⟨A5, cap5, rfl, ?_, ?_, HB.out.step hlt hg2 hfa hm3 hown3 hi3 hg4 (by rw [setCell_size] at hd; exact hd)⟩
          · rw [World.cell?_of_block b4, World.cell?_setCell_other _ _ _ _ (by intro e; injection e with _ e _; omega), World.cell?_of_block (b2 g hgr)]; exact x5
          · rw [World.frozen?_of_block b4, World.frozen?_setCell, World.frozen?_of_block (b2 g hgr)]; exact f5
        clear hc3 hc5 hfi hszk
        go_wp2_with (first
          | (go_at_call 61; refine HA.out.mono ?_; rintro e w2 ⟨A3, cap3, rfl, y3, z3, y5, HC2⟩)
          | (go_at_call 36; refine HC2.out.mono ?_; rintro e w4 ⟨A5, cap5, rfl, q5, r5, HN⟩))
        go_roundg (l.length - (i + 1))
        case measure => omega
        case rel => exact ⟨i + 1, by omega, by omega, congrArg (Value.int .i64) (by omega), HN⟩
      · have hltz : ¬ ((i : Int) < (l.length : Int)) := by omega
        go_wp2
        go_ret
        obtain ⟨vs, lo, h1, h2, h3, _⟩ := HB.out.row
        have : i = l.length := by omega
        subst this
        refine ⟨_, rfl, ⟨lo, vs, h63, h2, h1, ?_⟩, HB.out.grown⟩
        rw [List.take_length, List.take_of_length_le (by have := h1.1; omega)] at h3
        exact h3
end Go.Proofs.Ytmkjjopflncedaa.AX
end
