/- What the code of this statement does, over values that stand for data: an executor of the model's code, that it is sound, and contracts of functions: part 3. No condition is added to the statement. -/
import Derived.Test.YtnhipiedjekkpaaGreatDoorMD2
import Derived.Test.YtnhipiedjekkpaaGreatDoorProg
import Derived.KernelRfl
import Derived.Shelf.RegionOpenPlain
import Derived.WalkKit
import Derived.Deep.LoopGhost
import Derived.Deep.RegionLaw
import Derived.Lib.Walk
import Derived.Lib.SliceRun
import Derived.Test.YtnhipiedjekkpaaGreatDoorChecked
import Derived.Shelf.Strings.BuilderK
import Derived.Lib.AppendZerosOnto
import Derived.Laws.Bits128
import Derived.Laws.Entries
import Derived.Lib.Strings
import Derived.IntWalk
import Derived.Shelf.Strings.Replace
import Derived.Lib.CountLaws
import Derived.Laws.Append
set_option linter.unusedVariables false
set_option linter.unusedSimpArgs false
section
namespace Go.Proofs.YtnhipiedjekkpaaGreatDoor.AX
open Go Go.RowKit

def tyTab : List (Nat × Ty) := [
  (54, .edit),
  (73, .redit),
  (50, .nodes),
  (22, .edits),
  (48, .ints),
  (59, .bld),
  (69, .fns),
  (173, .two),
  (3, .int), (9, .str), (95, .attr), (52, .node), (5, .u8)]
def globTab : List Glo :=
  ⟨0, .two, [⟨0, 0⟩, ⟨0, 0⟩, ⟨192, 128⟩, ⟨224, 2048⟩, ⟨240, 65536⟩]⟩ ::
  []
def intTab : List Nat :=
  1 ::
  []
def tyLook : List (Nat × Ty) → Nat → Option Ty
  | [], _ => none
  | (m, t) :: l, n => match Nat.beq m n with
    | true => some t
    | false => tyLook l n
def tyBack : List (Nat × Ty) → Ty → Nat
  | [], _ => 0
  | (m, u) :: l, t => match tyEq t (some u) with
    | true => m
    | false => tyBack l t
def ownFns : List Nat :=
  []
def growTab : List (Nat × Ty) :=
  []
def bldN : Option Nat :=
  some 59
def isBld (n : Nat) : Bool :=
  match bldN with
  | some m => Nat.beq n m
  | none => false
noncomputable def cxT (T : Nat → List AV → List Blk → Option Ans) : Cx :=
  { P := Tryz.prog, tyOf := tyLook tyTab, tid := { id := tyBack tyTab, glob := globTab, ints := intTab }, bldT := isBld, growT := tyLook growTab, lend := fun f => !hasN ownFns f, chk := true, T := T }
noncomputable def cxC (T : Nat → List AV → List Blk → Option Ans) (cold : Nat → List Nat) : Cx := { cxT T with cold := cold }
noncomputable def cx0 : Cx := cxT fun _ _ _ => none

def tyOK (P : Program) : List (Nat × Ty) → Bool
  | [] => true
  | (e, t) :: l => (match P.info? e with
    | none => false
    | some i => Nat.beq i.size (width t) && (match i.zero with
      | some z => Nat.beq z.cells.size (width t)
      | none => false) && Nat.blt 0 i.bytes) && (match P.underlying e with
    | some _ => true
    | none => false) && tyOK P l
theorem tyOK_ok : tyOK Tryz.prog tyTab = true := by kernel_rfl
theorem tyOK_spec {P : Program} : ∀ {l : List (Nat × Ty)}, tyOK P l = true → ∀ p ∈ l, ∃ i z, P.info? p.1 = some i ∧ i.size = width p.2 ∧ i.zero = some z ∧ z.cells.size = width p.2 ∧ 0 < i.bytes ∧ P.underlying p.1 ≠ none
  | (e, t) :: l, h, p, hp => by
    simp only [tyOK, Bool.and_eq_true] at h
    obtain ⟨⟨h1, h2⟩, h3⟩ := h
    cases hp with
    | tail _ hp => exact tyOK_spec h3 p hp
    | head =>
      show ∃ i z, P.info? e = some i ∧ i.size = width t ∧ i.zero = some z ∧ z.cells.size = width t ∧ 0 < i.bytes ∧ P.underlying e ≠ none
      revert h1
      cases hi : P.info? e with
      | none => intro h1; cases h1
      | some i =>
        intro h1
        simp only [Bool.and_eq_true] at h1
        obtain ⟨⟨h4, h5⟩, h6⟩ := h1
        cases hz : i.zero with
        | none => rw [hz] at h5; cases h5
        | some z =>
          rw [hz] at h5
          refine ⟨i, z, rfl, Nat.eq_of_beq_eq_true h4, hz, Nat.eq_of_beq_eq_true h5, Nat.le_of_ble_eq_true h6, fun e0 => ?_⟩
          rw [e0] at h2; cases h2
theorem tyLook_mem : ∀ {l : List (Nat × Ty)} {e : Nat} {t : Ty}, tyLook l e = some t → (e, t) ∈ l
  | (m, u) :: l, e, t, h => by
    simp only [tyLook] at h
    split at h
    · rename_i hb; injection h with h; subst h; rw [Nat.eq_of_beq_eq_true hb]; exact .head _
    · exact .tail _ (tyLook_mem h)
def backOK (tab : List (Nat × Ty)) : List (Nat × Ty) → Bool
  | [] => true
  | (e, t) :: l => Nat.beq (tyBack tab t) e && backOK tab l
theorem backOK_spec {tab : List (Nat × Ty)} : ∀ {l : List (Nat × Ty)}, backOK tab l = true → ∀ p ∈ l, tyBack tab p.2 = p.1
  | (e, t) :: l, h, p, hp => by
    simp only [backOK, Bool.and_eq_true] at h
    cases hp with
    | head => exact Nat.eq_of_beq_eq_true h.1
    | tail _ hp => exact backOK_spec h.2 p hp
theorem follows_ok : Tryz.prog.follows .mixedOrders = true := by kernel_rfl
theorem back_ok : backOK tyTab tyTab = true := by kernel_rfl
theorem ty_ok {e : Nat} {t : Ty} (h : tyLook tyTab e = some t) : e = tyBack tyTab t ∧ ∃ i z, Tryz.prog.info? e = some i ∧ i.size = width t ∧ i.zero = some z ∧ z.cells.size = width t ∧ 0 < i.bytes ∧ Tryz.prog.underlying e ≠ none := by
  have hm := tyLook_mem h
  have h1 := backOK_spec back_ok (e, t) hm
  have h2 := tyOK_spec tyOK_ok (e, t) hm
  exact ⟨h1.symm, h2⟩
def strField (f : Field) (off : Nat) : Bool := !(f.name == "_") && Nat.beq f.type 9 && Nat.beq f.offset off
def twoF (l : List Field) : Bool :=
  match l with
  | [f, g] => strField f 0 && strField g 1
  | _ => false
theorem str_under : Tryz.prog.underlying 9 = some .string := by kernel_rfl
theorem attr_two : twoF (Tryz.prog.fieldsOf 95).toList = true := by kernel_rfl
theorem attr_guard : Tryz.prog.eqGuardType Tryz.prog.depth 95 = false := by kernel_rfl
theorem attr_under : Tryz.prog.underlying 95 = some (.struct (Tryz.prog.fieldsOf 95)) := by kernel_rfl
theorem attr_held : Tryz.prog.stoodInHeld 95 = false := by kernel_rfl
theorem str_part {w : World} {cs : Array Value} {off : Nat} {v : Value} (h : cs[off]? = some v) : (part 9 cs off).run Tryz.prog w = .ok v w := by
  simp [part, isAgg, run_underlying str_under, h]
theorem eqF {l : List Field} (h : twoF l = true) (a b c d : ByteArray) (w : World) : (Op.eqFields 9999 #[.string a, .string b] #[.string c, .string d] l).run Tryz.prog w = .ok (eqS a c && eqS b d) w := by
  unfold twoF at h
  split at h
  · rename_i f g
    simp only [strField, Bool.and_eq_true, Bool.not_eq_true'] at h
    obtain ⟨⟨⟨h1, h2⟩, h3⟩, ⟨h4, h5⟩, h6⟩ := h
    have n1 : f.name ≠ "_" := by simpa using h1
    have n2 : g.name ≠ "_" := by simpa using h4
    simp only [Op.eqFields, n1, n2, ne_eq, not_false_eq_true, if_true, Nat.eq_of_beq_eq_true h2, Nat.eq_of_beq_eq_true h3, Nat.eq_of_beq_eq_true h5, Nat.eq_of_beq_eq_true h6, Sem.run_bind]
    rw [str_part (v := .string a) rfl]
    simp only [Result.andThen_ok]
    rw [str_part (v := .string c) rfl]
    simp only [Result.andThen_ok]
    rw [run_equalIn_string w 9998 _ a c str_under]
    simp only [Result.andThen_ok]
    unfold eqS
    cases a.toList == c.toList with
    | false => simp
    | true =>
      simp only [Bool.not_true, Bool.false_eq_true, if_false, Sem.run_bind]
      rw [str_part (v := .string b) rfl]
      simp only [Result.andThen_ok]
      rw [str_part (v := .string d) rfl]
      simp only [Result.andThen_ok]
      rw [run_equalIn_string w 9998 _ b d str_under]
      simp only [Result.andThen_ok]
      cases b.toList == d.toList <;> simp
  · cases h
theorem attr_eq (t : TypeId) (ht : tyLook tyTab t = some .attr) (op : BinOp) (x y : Operand) (a b c d : ByteArray) (w : World) (ho : op = .eql ∨ op = .neq) :
    (do eqGuard op t x y (.agg #[.string a, .string b]) (.agg #[.string c, .string d]); binOp op t (.agg #[.string a, .string b]) (.agg #[.string c, .string d]) : Sem Value).run Tryz.prog w =
      .ok (.bool (if op = .eql then eqS a c && eqS b d else !(eqS a c && eqS b d))) w := by
  have e : t = 95 := (ty_ok ht).1
  subst e
  simp only [Sem.run_bind]
  rw [run_eqGuard_agg w op _ x y _ _ attr_guard]
  simp only [Result.andThen_ok]
  rcases ho with rfl | rfl
  · rw [run_eql_struct, run_equalIn_agg w 9999 _ _ _ attr_under attr_held, eqF attr_two]
    rfl
  · rw [run_neq_struct, run_equalIn_agg w 9999 _ _ _ attr_under attr_held, eqF attr_two]
    rfl
def bldB (P : Program) (e : Nat) : Bool :=
  match P.info? e with
  | none => false
  | some i => match i.zero with
    | some (.agg cs) => match cs.toList with
      | [.pointer none, .slice none 0 0] => true
      | _ => false
    | _ => false
def bldsB (P : Program) : Bool :=
  match bldN with
  | some m => bldB P m && Nat.beq (tyBack tyTab .bld) m
  | none => true
theorem bldB_ok : bldsB Tryz.prog = true := by kernel_rfl
theorem bldB_spec {P : Program} {e : Nat} (h : bldB P e = true) : ∃ i, P.info? e = some i ∧ i.zero = some (.agg #[.pointer none, .slice none 0 0]) := by
  unfold bldB at h
  split at h
  · cases h
  · rename_i i hi
    refine ⟨i, hi, ?_⟩
    split at h
    · rename_i cs hz
      rw [hz]
      split at h
      · rename_i hc
        have : cs = #[.pointer none, .slice none 0 0] := Array.toList_inj.1 hc
        rw [this]
      · cases h
    · cases h
theorem bld_ok (T : Nat → List AV → List Blk → Option Ans) (cold : Nat → List Nat) : ∀ e, (cxC T cold).bldT e = true → e = (cxC T cold).tid .bld ∧ ∃ i, (cxC T cold).P.info? e = some i ∧ i.zero = some (.agg #[.pointer none, .slice none 0 0]) := fun e h => by
  have h : isBld e = true := h
  have h0 := bldB_ok
  unfold bldsB at h0
  unfold isBld at h
  split at h
  · rename_i m hm
    rw [hm] at h0
    simp only [Bool.and_eq_true] at h0
    have := Nat.eq_of_beq_eq_true h
    subst this
    exact ⟨(Nat.eq_of_beq_eq_true h0.2).symm, bldB_spec h0.1⟩
  · cases h
theorem cxOK (T : Nat → List AV → List Blk → Option Ans) : CxOK (cxT T) :=
  ⟨fun e t h => ty_ok h, fun t ht op x y a b c d w ho => attr_eq t ht op x y a b c d w ho, bld_ok T fun _ => [], follows_ok, rfl⟩


/-! ### Tables of contracts -/
abbrev Con := List AV → List Blk → Option Ans
def tabLook : List (Nat × Con) → Nat → Con
  | [], _ => fun _ _ => none
  | (m, c) :: l, n => match Nat.beq m n with
    | true => c
    | false => tabLook l n
def Holds (f : Nat) (c : Con) : Prop := ∀ args hp ans, c args hp = some ans → Meets cx0 f args hp ans
theorem meets_any {T : Nat → List AV → List Blk → Option Ans} {f : Nat} {args : List AV} {hp : List Blk} {ans : Ans} (h : Meets cx0 f args hp ans) : Meets (cxT T) f args hp ans := h
theorem tab_ok {l : List (Nat × Con)} (h : ∀ p ∈ l, Holds p.1 p.2) (he : ∀ p ∈ l, ∀ vals w, (callFunc p.1 vals).run Tryz.prog w = .ok (.enter p.1 vals) w) : TOK (cxT (tabLook l)) := by
  have key : ∀ (m : List (Nat × Con)) (f : Nat) (args : List AV) (hp : List Blk) (ans : Ans), tabLook m f args hp = some ans → ∃ p ∈ m, p.1 = f ∧ p.2 args hp = some ans := by
    intro m
    induction m with
    | nil => intro f args hp ans h; cases h
    | cons p m ih =>
      intro f args hp ans h
      obtain ⟨g, c⟩ := p
      unfold tabLook at h
      cases hb : Nat.beq g f with
      | true => rw [hb] at h; exact ⟨_, .head _, Nat.eq_of_beq_eq_true hb, h⟩
      | false =>
        rw [hb] at h
        obtain ⟨p, hp1, hp2⟩ := ih f args hp ans h; exact ⟨p, .tail _ hp1, hp2⟩
  refine ⟨fun f args hp ans hT => ?_, fun f args hp ans hT vals w => ?_⟩
  · obtain ⟨p, hm, rfl, hc⟩ := key l f args hp ans hT
    exact h p hm args hp ans hc
  · obtain ⟨p, hm, rfl, hc⟩ := key l f args hp ans hT
    exact he p hm vals w
def entB (P : Program) (f : Nat) : Bool :=
  match P.funcs[f]? with
  | none => false
  | some fn => match fn.name == "runtime.NumGoroutine" with
    | true => false
    | false => fn.body.isSome
theorem enter_of {f : Nat} (h : entB Tryz.prog f = true) (vals : Array Value) (w : World) : (callFunc f vals).run Tryz.prog w = .ok (.enter f vals) w := by
  unfold entB at h
  unfold callFunc
  simp only [Sem.run_bind, run_program, Result.andThen_ok]
  cases hf : Tryz.prog.funcs[f]? with
  | none => rw [hf] at h; cases h
  | some fn =>
    rw [hf] at h
    simp only at h
    cases hn : fn.name == "runtime.NumGoroutine" with
    | true => rw [hn] at h; cases h
    | false =>
      rw [hn] at h
      cases hb : fn.body with
      | none => simp [hb] at h
      | some c =>
        have hn' : ¬ fn.name = "runtime.NumGoroutine" := by simpa using hn
        simp [hb, hn']

def AVle (x y : AV) : Prop := ∀ (w : World) (O : Nat → Prop) (I : Im) (v : Value), ValR1 w O I v x → ValR1 w O I v y
theorem AVle.refl (x : AV) : AVle x x := fun _ _ _ _ h => h
theorem AVle.nil (t : Ty) : AVle .nil (.row t []) := fun w O I v h => by
  cases (show LeafR w O I v .nil from h); exact .leaf (.row0 t)
theorem AVle.lit (b : Bool) : AVle (.lit b) (.bool b) := fun w O I v h => by
  cases (show LeafR w O I v (.lit b) from h); exact .leaf (.bool b)
theorem Meets.weaken {cx : Cx} {f : Nat} {args args' : List AV} {hp : List Blk} {ans : Ans} (h : All2 AVle args args') (hm : Meets cx f args' hp ans) : Meets cx f args hp ans := by
  intro F I w vals hH hv
  refine hm F I w vals hH (.of (hv.length.trans h.length) fun i v y hi hy => ?_)
  obtain ⟨x, hx, hxy⟩ := h.get hy
  obtain ⟨v', hv', hr⟩ := hv.get hx
  rw [hi] at hv'; injection hv' with hv'; subst hv'
  exact hxy _ _ _ _ hr
theorem Meets.row0 {cx : Cx} {f : Nat} {t : Ty} {args0 args1 : List AV} {hp : List Blk} {ans : Ans} (h1 : Meets cx f (args0 ++ .nil :: args1) hp ans) (h2 : Meets cx f (args0 ++ .zrow :: args1) hp ans) : Meets cx f (args0 ++ .row t [] :: args1) hp ans := by
  intro F I w vals hH hv
  have hsome : (args0 ++ AV.row t [] :: args1)[args0.length]? = some (.row t []) := by simp
  obtain ⟨v, hv1, hr⟩ := hv.get hsome
  have swap : ∀ y, ValR1 w (Own F I) I v y → All2 (ValR1 w (Own F I) I) vals (args0 ++ y :: args1) := by
    intro y hy
    refine .of (by have := hv.length; simpa using this) fun i u x hu hx => ?_
    by_cases e : i = args0.length
    · subst e
      rw [hv1] at hu; injection hu with hu; subst hu
      have : x = y := by simpa using hx.symm
      subst this; exact hy
    · have : (args0 ++ AV.row t [] :: args1)[i]? = some x := by
        rw [List.getElem?_append] at hx ⊢
        split
        · rename_i hlt; rw [if_pos hlt] at hx; exact hx
        · rename_i hlt
          rw [if_neg hlt] at hx
          obtain ⟨k, hk⟩ : ∃ k, i - args0.length = k + 1 := ⟨i - args0.length - 1, by omega⟩
          rw [hk] at hx ⊢
          simpa using hx
      obtain ⟨u', hu', hr'⟩ := hv.get this
      rw [hu] at hu'; injection hu' with hu'; subst hu'; exact hr'
  cases (show LeafR w (Own F I) I v (.row t []) from hr) with
  | row0 => exact h1 F I w vals hH (swap _ (.leaf .nil))
  | rowz ad c => exact h2 F I w vals hH (swap _ (.leaf (.zrow _ _)))
  | row b off c => exact h2 F I w vals hH (swap _ (.leaf (.zrow _ _)))

/-! ### Loops of a function -/
noncomputable def bodyOf (fn : Func) (i : Nat) : Code := match (loopsOf 0 (fn.body.getD .skip))[i]? with
  | some p => p.2
  | none => .skip
noncomputable def blkOf (fn : Func) (i : Nat) : Nat := match (loopsOf 0 (fn.body.getD .skip))[i]? with
  | some p => p.1
  | none => 0
theorem loops_ok {cx : Cx} {fix : List Nat} {L : Loops} {fn : Func} {c : Code} (hb : fn.body = some c) (n : Nat) (hn : (loopsOf 0 (fn.body.getD .skip)).length = n) (h : ∀ i, i < n → ∀ s K, L (blkOf fn i) s K → Snd cx fix (.loop (bodyOf fn i)) s K) : LoopsOK cx fix L 0 c := by
  intro p hp s K hL
  have e : fn.body.getD .skip = c := by rw [hb]; rfl
  rw [e] at hn
  obtain ⟨i, hi, rfl⟩ := List.getElem_of_mem hp
  have := h i (by omega) s K
  unfold blkOf bodyOf at this
  rw [e, List.getElem?_eq_getElem hi] at this
  exact this hL
end Go.Proofs.YtnhipiedjekkpaaGreatDoor.AX
end
section
namespace Go.Proofs.YtnhipiedjekkpaaGreatDoor.AX
open Go Go.RowKit

inductive Pm where
  | int
  | u8
  | str
  | bool
  | row (t : Ty)
  | agg (t : Ty)
  | fn (f : Nat)
abbrev Dp : Pm → Type
  | .int => Int
  | .u8 => Int
  | .str => ByteArray
  | .bool => Bool
  | .row t => List (den t)
  | .agg t => den t
  | .fn _ => Unit
def rowOf (t : Ty) : AV → Option (List (den t))
  | .nil => some []
  | .row _ xs => castRow t xs
  | _ => none
def intOf : AV → Option Int
  | .int .i64 n => some n
  | _ => none
def u8Of : AV → Option Int
  | .int .u8 n => some n
  | _ => none
def strOfA : AV → Option ByteArray
  | .str s => some s
  | _ => none
def boolOf : AV → Option Bool
  | .bool b => some b
  | .lit b => some b
  | _ => none
def aggOf (t : Ty) : AV → Option (den t)
  | .agg l => toEl t l
  | _ => none
def fnOf (f : Nat) : AV → Option Unit
  | .fn g [] => match Nat.beq g f with
    | true => some ()
    | false => none
  | _ => none
def Pm.get (p : Pm) (x : AV) : Option (Dp p) :=
  match p with
  | .int => intOf x
  | .u8 => u8Of x
  | .str => strOfA x
  | .bool => boolOf x
  | .row t => rowOf t x
  | .agg t => aggOf t x
  | .fn f => fnOf f x
def Pm.av : (p : Pm) → Dp p → AV
  | .int, n => .int .i64 n
  | .u8, n => .int .u8 n
  | .str, s => .str s
  | .bool, b => .bool b
  | .row t, xs => .row t xs
  | .agg t, x => .agg (leaves t x)
  | .fn f, _ => .fn f []
theorem castRow_av {t u : Ty} {xs : List (den u)} {ys : List (den t)} (h : castRow t xs = some ys) : AV.row u xs = AV.row t ys := by
  unfold castRow at h
  split at h
  · rename_i e _
    subst e
    injection h with h; subst h; rfl
  · cases h
theorem Pm.le {p : Pm} {x : AV} {d : Dp p} (h : p.get x = some d) : AVle x (p.av d) := by
  cases p with
  | row t =>
    change rowOf t x = some d at h
    unfold rowOf at h
    split at h
    · injection h with h; subst h; exact .nil _
    · show AVle _ (.row t d)
      rw [castRow_av h]; exact .refl _
    · cases h
  | agg t =>
    change aggOf t x = some d at h
    unfold aggOf at h
    split at h
    · intro w O I v hv
      obtain ⟨cs, rfl, hall⟩ := hv
      exact ⟨cs, rfl, toEl_R hall h⟩
    · cases h
  | bool =>
    change boolOf x = some d at h
    unfold boolOf at h
    split at h
    · injection h with h; subst h; exact .refl _
    · injection h with h; subst h; exact .lit _
    · cases h
  | int =>
    change intOf x = some d at h
    unfold intOf at h
    split at h
    · injection h with h; subst h; exact .refl _
    · cases h
  | u8 =>
    change u8Of x = some d at h
    unfold u8Of at h
    split at h
    · injection h with h; subst h; exact .refl _
    · cases h
  | fn f =>
    change fnOf f x = some d at h
    unfold fnOf at h
    split at h
    · split at h
      · rename_i hb
        rw [Nat.eq_of_beq_eq_true hb]; exact .refl _
      · cases h
    · cases h
  | str =>
    change strOfA x = some d at h
    unfold strOfA at h
    split at h
    · injection h with h; subst h; exact .refl _
    · cases h
def Fn : List Pm → Type → Type
  | [], R => R
  | p :: ps, R => Dp p → Fn ps R
def conArgs : (ps : List Pm) → Fn ps Ans → List AV → Option Ans
  | [], r, [] => some r
  | p :: ps, g, x :: l => (p.get x).bind fun d => conArgs ps (g d) l
  | _, _, _ => none
def conP (ps : List Pm) (g : Fn ps Ans) : Con := fun args hp => match hp with
  | [] => conArgs ps g args
  | _ => none
def AllP : (ps : List Pm) → Fn ps Ans → (List AV → Ans → Prop) → Prop
  | [], r, M => M [] r
  | p :: ps, g, M => ∀ d, AllP ps (g d) fun args ans => M (p.av d :: args) ans
theorem conArgs_of : ∀ {ps : List Pm} {g : Fn ps Ans} {M : List AV → Ans → Prop} {args : List AV} {ans : Ans}, AllP ps g M → conArgs ps g args = some ans → ∃ args', All2 AVle args args' ∧ M args' ans
  | [], r, M, [], ans, h, e => by injection e with e; subst e; exact ⟨[], .nil, h⟩
  | [], _, _, _ :: _, _, _, e => by cases e
  | _ :: _, _, _, [], _, _, e => by cases e
  | p :: ps, g, M, x :: l, ans, h, e => by
    simp only [conArgs, Option.bind_eq_some_iff] at e
    obtain ⟨d, hd, e⟩ := e
    obtain ⟨args', h1, h2⟩ := conArgs_of (h d) e
    exact ⟨_, .cons (Pm.le hd) h1, h2⟩
theorem conP_holds {f : Nat} {ps : List Pm} {g : Fn ps Ans} (h : AllP ps g fun args ans => Meets cx0 f args [] ans) : Holds f (conP ps g) := by
  intro args hp ans e
  unfold conP at e
  split at e
  · obtain ⟨args', h1, h2⟩ := conArgs_of h e
    exact h2.weaken h1
  · cases e

/-! ### Tables -/
inductive AllH : List (Nat × Con) → Prop where
  | nil : AllH []
  | cons {f : Nat} {c : Con} {l : List (Nat × Con)} (h : Holds f c) (e : entB Tryz.prog f = true) (t : AllH l) : AllH ((f, c) :: l)
theorem AllH.mem {l : List (Nat × Con)} (h : AllH l) : ∀ p ∈ l, Holds p.1 p.2 ∧ entB Tryz.prog p.1 = true := by
  induction h with
  | nil => intro p hp; cases hp
  | cons h e _ ih =>
    intro p hp
    cases hp with
    | head => exact ⟨h, e⟩
    | tail _ hp => exact ih p hp
theorem AllH.tok {l : List (Nat × Con)} (h : AllH l) : TOK (cxT (tabLook l)) := tab_ok (fun p hp => (h.mem p hp).1) (fun p hp vals w => enter_of (h.mem p hp).2 vals w)

/-! ### Loops -/
structure LS where
  keep : List (Tmp × Want)
  left : List (Tmp × Want)
  sum : List AV → List Blk → (Ex → List AV → List Blk → Prop) → Prop
def lookLS : List (Nat × LS) → Nat → Option LS
  | [], _ => none
  | (b, x) :: l, n => match Nat.beq b n with
    | true => some x
    | false => lookLS l n
def Lof (n : Nat) (l : List (Nat × LS)) : Loops := fun b s K => match lookLS l b with
  | some x => loopA n x.keep x.left x.sum s K
  | none => False
def deepLoops : Nat → Code → List (Nat × Code)
  | b, .seq x y => deepLoops b x ++ deepLoops b y
  | b, .cond _ x y => deepLoops b x ++ deepLoops b y
  | _, .block id c => deepLoops id c
  | b, .loop c => (b, c) :: deepLoops b c
  | b, .scope c => deepLoops b c
  | _, _ => []
def SumOK (cx : Cx) (L : Loops) (n : Nat) (b : Nat) (c : Code) (x : LS) : Prop := ∀ vs bs K, x.sum vs bs K → ∃ m, roundsA cx L n b c x.keep x.left K m vs bs
theorem loopsOK_deep {cx : Cx} {fix : List Nat} {n : Nat} {l : List (Nat × LS)} (ok : CxOK cx) (tok : TOK cx) : ∀ (c : Code) (b : Nat), clearC fix c = true → (∀ p ∈ deepLoops b c, ∀ x, lookLS l p.1 = some x → SumOK cx (Lof n l) n p.1 p.2 x) → LoopsOK cx fix (Lof n l) b c := by
  intro c
  induction c with
  | seq x y ihx ihy =>
    intro b hc h p hp
    simp only [clearC] at hc
    split at hc
    · rename_i hcx
      rcases List.mem_append.1 hp with hp | hp
      · exact ihx b hcx (fun p hp => h p (List.mem_append.2 (.inl hp))) p hp
      · exact ihy b hc (fun p hp => h p (List.mem_append.2 (.inr hp))) p hp
    · cases hc
  | cond c x y ihx ihy =>
    intro b hc h p hp
    simp only [clearC] at hc
    split at hc
    · rename_i hcx
      rcases List.mem_append.1 hp with hp | hp
      · exact ihx b hcx (fun p hp => h p (List.mem_append.2 (.inl hp))) p hp
      · exact ihy b hc (fun p hp => h p (List.mem_append.2 (.inr hp))) p hp
    · cases hc
  | block id c ih =>
    intro b hc h p hp
    exact ih id hc h p hp
  | scope c ih =>
    intro b hc h p hp
    exact ih b hc h p hp
  | loop c ih =>
    intro b hc h p hp s K hL
    simp only [loopsOf, List.mem_singleton] at hp
    subst hp
    unfold Lof at hL
    cases hx : lookLS l b with
    | none => rw [hx] at hL; exact hL.elim
    | some x =>
      rw [hx] at hL
      exact loop_snd ok tok (ih b hc fun p hp => h p (.tail _ hp)) hc (h _ (.head _) x hx) hL
  | _ => intro b _ _ p hp; cases hp
noncomputable def fcode (fn : Func) : Code := fn.body.getD .skip
noncomputable def loopAt (fn : Func) (i : Nat) : Nat × Code := (deepLoops 0 (fcode fn)).getD i (0, .skip)
noncomputable def LSof (fn : Func) (lss : List LS) : List (Nat × LS) := ((deepLoops 0 (fcode fn)).map (·.1)).zip lss
noncomputable def LL (fn : Func) (lss : List LS) : Loops := Lof fn.ntmps (LSof fn lss)
def nodupN : List Nat → Bool
  | [] => true
  | a :: l => match hasN l a with
    | true => false
    | false => nodupN l
noncomputable def okFnS (fn : Func) (args : List AV) (fs : List Fst) (hp : List Blk) (ans : Ans) (k : Nat) : Bool :=
  fn.body.isSome && clearC (slotsOf fs) (fcode fn) && formS fn args fs hp ans && Nat.beq (deepLoops 0 (fcode fn)).length k && nodupN ((deepLoops 0 (fcode fn)).map (·.1))
noncomputable def okFn (fn : Func) (args : List AV) (hp : List Blk) (ans : Ans) (k : Nat) : Bool := noSame ans.same && okFnS fn args (fsOf args) hp ans k
theorem lookLS_zip : ∀ {bs : List Nat} {lss : List LS} {i b : Nat} {x : LS}, nodupN bs = true → bs[i]? = some b → lookLS (bs.zip lss) b = some x → lss[i]? = some x
  | [], _, _, _, _, _, h, _ => by simp at h
  | a :: bs, [], i, b, x, _, _, h => by cases h
  | a :: bs, y :: lss, i, b, x, hn, h, hl => by
    simp only [nodupN] at hn
    split at hn
    · cases hn
    · rename_i hna
      simp only [List.zip_cons_cons, lookLS] at hl
      cases i with
      | zero =>
        simp at h
        subst h
        rw [Nat.beq_refl] at hl
        injection hl with hl
        simp [hl]
      | succ i =>
        simp at h
        split at hl
        · rename_i hb
          have := Nat.eq_of_beq_eq_true hb
          subst this
          have hm := hasN_iff.2 (List.mem_of_getElem? h)
          rw [hm] at hna; cases hna
        · simpa using lookLS_zip hn h hl
def FinQ (ans : Ans) (vs : List AV) (x y : List Blk) : Prop := (∀ p, ans.given = some p → p) ∧ vs = compsOf ans.res ∧ x = ans.hp ∧ y = ans.extra
theorem fun_meetsLS {T : Nat → List AV → List Blk → Option Ans} (tok : TOK (cxT T)) {f : Nat} {fn : Func} {args : List AV} {hp : List Blk} (fs : List Fst) (ws : List Want) {ans : Ans} (lss : List LS) (hf : Tryz.prog.funcs[f]? = some fn) (hchk : okFnS fn args fs hp ans lss.length = true)
    (hs : ∀ i x, lss[i]? = some x → SumOK (cxT T) (LL fn lss) fn.ntmps (loopAt fn i).1 (loopAt fn i).2 x)
    (h : (∀ p, ans.pre = some p → p) → funS (cxT T) (LL fn lss) fn args hp fs ans.same ws (FinQ ans)) : Meets cx0 f args hp ans := by
  simp only [okFnS, Bool.and_eq_true] at hchk
  obtain ⟨⟨⟨⟨h1, h2⟩, h3⟩, h4⟩, h5⟩ := hchk
  obtain ⟨c, hc⟩ := Option.isSome_iff_exists.1 h1
  have e : fcode fn = c := by unfold fcode; rw [hc]; rfl
  refine meets_any (T := fun _ _ _ => none) (show Meets (cxT T) _ _ _ _ from ?_)
  refine fun_meetsS (ws := ws) (cxOK T) tok hf hc ?_ (by rw [← e]; exact h2) h3 h
  rw [← e]
  refine loopsOK_deep (cxOK T) tok _ _ h2 fun p hp x hx => ?_
  obtain ⟨i, hi, rfl⟩ := List.getElem_of_mem hp
  have hxi := lookLS_zip (i := i) h5 (by simp [hi]) hx
  have := hs i x hxi
  have el : loopAt fn i = (deepLoops 0 (fcode fn))[i] := by
    unfold loopAt; rw [List.getD_eq_getElem?_getD, List.getElem?_eq_getElem hi]; rfl
  rw [el] at this
  exact this
theorem fun_meetsL {T : Nat → List AV → List Blk → Option Ans} (tok : TOK (cxT T)) {f : Nat} {fn : Func} {args : List AV} {hp : List Blk} (ws : List Want) {ans : Ans} (lss : List LS) (hf : Tryz.prog.funcs[f]? = some fn) (hchk : okFn fn args hp ans lss.length = true)
    (hs : ∀ i x, lss[i]? = some x → SumOK (cxT T) (LL fn lss) fn.ntmps (loopAt fn i).1 (loopAt fn i).2 x)
    (h : (∀ p, ans.pre = some p → p) → funA (cxT T) (LL fn lss) fn args hp ws (FinQ ans)) : Meets cx0 f args hp ans := by
  simp only [okFn, Bool.and_eq_true] at hchk
  have e : ans.same = [] := by
    have := hchk.1
    unfold noSame at this
    split at this
    · assumption
    · cases this
  refine fun_meetsLS tok (fsOf args) ws lss hf hchk.2 hs fun hp => ?_
  rw [e]
  exact h hp
theorem fun_meets1S {T : Nat → List AV → List Blk → Option Ans} (tok : TOK (cxT T)) {f : Nat} {fn : Func} {args : List AV} {hp : List Blk} (fs : List Fst) (ws : List Want) {ans : Ans} (x : LS) (hf : Tryz.prog.funcs[f]? = some fn) (hchk : okFnS fn args fs hp ans 1 = true)
    (hs : SumOK (cxT T) (LL fn [x]) fn.ntmps (loopAt fn 0).1 (loopAt fn 0).2 x)
    (h : (∀ p, ans.pre = some p → p) → funS (cxT T) (LL fn [x]) fn args hp fs ans.same ws (FinQ ans)) : Meets cx0 f args hp ans :=
  fun_meetsLS tok fs ws [x] hf hchk (fun i y hy => by
    cases i with
    | zero => simp at hy; subst hy; exact hs
    | succ i => simp at hy) h
theorem fun_meets0 {T : Nat → List AV → List Blk → Option Ans} (tok : TOK (cxT T)) {f : Nat} {fn : Func} {args : List AV} {hp : List Blk} (ws : List Want) {ans : Ans} (hf : Tryz.prog.funcs[f]? = some fn) (hchk : okFn fn args hp ans 0 = true)
    (h : (∀ p, ans.pre = some p → p) → funA (cxT T) (LL fn []) fn args hp ws (FinQ ans)) : Meets cx0 f args hp ans :=
  fun_meetsL tok ws [] hf hchk (fun i x hx => by simp at hx) h
theorem fun_meets1 {T : Nat → List AV → List Blk → Option Ans} (tok : TOK (cxT T)) {f : Nat} {fn : Func} {args : List AV} {hp : List Blk} (ws : List Want) {ans : Ans} (x : LS) (hf : Tryz.prog.funcs[f]? = some fn) (hchk : okFn fn args hp ans 1 = true)
    (hs : SumOK (cxT T) (LL fn [x]) fn.ntmps (loopAt fn 0).1 (loopAt fn 0).2 x)
    (h : (∀ p, ans.pre = some p → p) → funA (cxT T) (LL fn [x]) fn args hp ws (FinQ ans)) : Meets cx0 f args hp ans :=
  fun_meetsL tok ws [x] hf hchk (fun i y hy => by
    cases i with
    | zero => simp at hy; subst hy; exact hs
    | succ i => simp at hy) h
theorem fun_meets2 {T : Nat → List AV → List Blk → Option Ans} (tok : TOK (cxT T)) {f : Nat} {fn : Func} {args : List AV} {hp : List Blk} (ws : List Want) {ans : Ans} (x y : LS) (hf : Tryz.prog.funcs[f]? = some fn) (hchk : okFn fn args hp ans 2 = true)
    (hs : SumOK (cxT T) (LL fn [x, y]) fn.ntmps (loopAt fn 0).1 (loopAt fn 0).2 x) (hs1 : SumOK (cxT T) (LL fn [x, y]) fn.ntmps (loopAt fn 1).1 (loopAt fn 1).2 y)
    (h : (∀ p, ans.pre = some p → p) → funA (cxT T) (LL fn [x, y]) fn args hp ws (FinQ ans)) : Meets cx0 f args hp ans :=
  fun_meetsL tok ws [x, y] hf hchk (fun i z hz => by
    match i, hz with
    | 0, hz => simp at hz; subst hz; exact hs
    | 1, hz => simp at hz; subst hz; exact hs1
    | i + 2, hz => simp at hz) h

def rk (K : Ex → List AV → List Blk → Prop) (R : List AV → List Blk → Prop) : Ex → List AV → List Blk → Prop := fun e vs bs => match e with
  | .norm => R vs bs
  | e => K e vs bs
theorem rounds_for {cx : Cx} {L : Loops} {n b : Nat} {c : Code} {keep left : List (Tmp × Want)} {K : Ex → List AV → List Blk → Prop} (P : Nat → Prop) (st : Nat → List AV) (bl : Nat → List Blk) (N : Nat)
    (hstep : ∀ i, i < N → P i → ∀ R : List AV → List Blk → Prop, (P (i + 1) → R (st (i + 1)) (bl (i + 1))) → bodyA cx L n b c keep left (rk K R) (st i) (bl i))
    (hend : P N → ∀ R, bodyA cx L n b c keep left (rk K R) (st N) (bl N)) : ∀ (k i : Nat), i + k = N → P i → roundsA cx L n b c keep left K (k + 1) (st i) (bl i) := by
  intro k
  induction k with
  | zero =>
    intro i hi hp
    have : i = N := by omega
    subst this
    exact hend hp (roundsA cx L n b c keep left K 0)
  | succ k ih =>
    intro i hi hp
    exact hstep i (by omega) hp (roundsA cx L n b c keep left K (k + 1)) fun h => ih (i + 1) (by omega) h
theorem sum_for {cx : Cx} {L : Loops} {n b : Nat} {c : Code} {keep left : List (Tmp × Want)} {K : Ex → List AV → List Blk → Prop} (P : Nat → Prop) (st : Nat → List AV) (bl : Nat → List Blk) (N : Nat)
    (hstep : ∀ i, i < N → P i → ∀ R : List AV → List Blk → Prop, (P (i + 1) → R (st (i + 1)) (bl (i + 1))) → bodyA cx L n b c keep left (rk K R) (st i) (bl i))
    (hend : P N → ∀ R, bodyA cx L n b c keep left (rk K R) (st N) (bl N)) (h0 : P 0) : ∃ m, roundsA cx L n b c keep left K m (st 0) (bl 0) := ⟨_, rounds_for P st bl N hstep hend N 0 (Nat.zero_add _) h0⟩
theorem qfin {ans : Ans} {vs : List AV} {x y : List Blk} (h0 : ans.given = none) (h1 : vs = compsOf ans.res) (h2 : x = ans.hp) (h3 : y = ans.extra) : FinQ ans vs x y :=
  ⟨fun p hp => (by rw [h0] at hp; cases hp), h1, h2, h3⟩
theorem wrap_id' {i : Int} (h0 : -9223372036854775808 ≤ i) (h1 : i < 9223372036854775808) : IntKind.i64.wrap i = i := by
  rw [IntKind.wrap_i64]; omega
theorem wrap_succ {i : Nat} {xs : Nat} (h : i < xs) (hm : xs ≤ maxSl) : IntKind.i64.wrap ((i : Int) + 1) = ((i + 1 : Nat) : Int) := by
  unfold maxSl at hm
  rw [wrap_id'] <;> omega
theorem rd_get {t : Ty} {xs : List (den t)} {i : Nat} (h : i < xs.length) : rd t xs (i : Int) = xs[i] := by
  have := rd_eq (t := t) (xs := xs) (i := (i : Int)) (by rw [Int.toNat_natCast]; exact h)
  exact this.trans (by rfl)
end Go.Proofs.YtnhipiedjekkpaaGreatDoor.AX
end
section
namespace Go.Proofs.YtnhipiedjekkpaaGreatDoor.AX
open Go Go.Shelf Go.RowKit

end Go.Proofs.YtnhipiedjekkpaaGreatDoor.AX
end
section
namespace Go.Proofs.YtnhipiedjekkpaaGreatDoor.AX
open Go Go.Shelf Go.RowKit

end Go.Proofs.YtnhipiedjekkpaaGreatDoor.AX
end
section
namespace Go.Proofs.YtnhipiedjekkpaaGreatDoor.AX
open Go Go.RowKit
section
variable {tid : Env} {w w' : World} {F : Nat → Prop} {I I' : Im}
def ownE (I : Im) (b : Nat) : Prop := ∃ i l, I i = some l ∧ l.has b
theorem HRel.toRel {hp : List (Option Blk)} (hH : HRel tid F I hp w) : Rel tid w (ownE I) F I ⟨[], hp⟩ { tmps := #[], defers := [] } w :=
  ⟨rfl, .nil, hH.hp, hH.inj, hH.apart, fun i l b h1 h2 => ⟨.inl ⟨i, l, h1, h2⟩, hH.lt i l b h1 h2⟩, hH.out, rfl, rfl, rfl, Nat.le_refl _, fun _ _ _ => rfl, hH.glob⟩
theorem Rel.post {hp : List Blk} {ans : Ans} {v : Value} {a : Act} {tm : List AV} (hR : Rel tid w (ownE I) F I' ⟨tm, (ans.hp ++ ans.extra).map some⟩ a w') (hv : ValR w' (Own F I') I' v ans.res) (hg : ans.given = none)
    (hk : ∀ i, i < hp.length → (∀ b, I i = some (.box b) → I' i = some (.box b)) ∧ (∀ b v, I i = some (.bld b v) → ∃ v', I' i = some (.bld b v')) ∧ (∀ n t v, I i = some (.row n t v) → ∃ n' t' v', I' i = some (.row n' t' v') ∧ (hasN ans.same i = true → n' = 0 ∧ t' = t ∧ (n = 0 → v' = v)))) :
    ∃ v' I'', Ending.returned v = .returned v' ∧ ValR w' (Own F I'') I'' v' ans.res ∧ HRel tid F I'' ((ans.hp ++ ans.extra).map some) w' ∧ (∀ p, ans.given = some p → p) ∧
      (∀ i, i < hp.length → (∀ b, I i = some (.box b) → I'' i = some (.box b)) ∧ (∀ b v, I i = some (.bld b v) → ∃ v', I'' i = some (.bld b v')) ∧ (∀ n t v, I i = some (.row n t v) → ∃ n' t' v', I'' i = some (.row n' t' v') ∧ (hasN ans.same i = true → n' = 0 ∧ t' = t ∧ (n = 0 → v' = v)))) ∧
      (∀ i l b, I'' i = some l → l.has b → (∃ j l0, I j = some l0 ∧ l0.has b) ∨ w.heap.size ≤ b) ∧
      w'.os = w.os ∧ w'.tape = w.tape ∧ w'.output = w.output ∧ w.heap.size ≤ w'.heap.size ∧ (∀ b, b < w.heap.size → (∀ i l, I i = some l → ¬ l.has b) → w'.heap[b]? = w.heap[b]?) :=
  ⟨v, I', rfl, hv, hR.toH, fun p hp => (by rw [hg] at hp; cases hp), hk, fun i l b h1 h2 => (hR.place i l b h1 h2).1, hR.os, hR.tape, hR.output, hR.size, fun b hb hn => hR.kept b hb fun ⟨i, l, h1, h2⟩ => hn i l h1 h2⟩
theorem Rel.turn {w0 : World} {E : Nat → Prop} {s : St} {a : Act} (hR : Rel tid w0 E F I s a w) {id g n cap m : Nat} {t : Ty} {xs ys : List (den t)} {cur' : Array Value} (hb : s.hp.getD id none = some (.rowb m t xs)) (hI : I id = some (.row m t (.slice (some ⟨g, 0, none⟩) n cap)))
    (hT : Turn w w' g (tid t) cur') (hcs : cur'.size = cap * width t) (hcap : cap ≤ maxLen) (hy : ys.length ≤ cap) (hm : ys.length ≤ maxSl) (hall : All2 (LeafR w (Own F I) I) (cur'.toList.take (ys.length * width t)) (cellsOf t ys)) :
    Rel tid w0 E F (iup I id (.row (m + 1) t (.slice (some ⟨g, 0, none⟩) ys.length cap))) ⟨s.tm, s.hp.set id (some (.rowb (m + 1) t ys))⟩ a w' ∧
      LeafR w' (Own F (iup I id (.row (m + 1) t (.slice (some ⟨g, 0, none⟩) ys.length cap)))) (iup I id (.row (m + 1) t (.slice (some ⟨g, 0, none⟩) ys.length cap))) (.slice (some ⟨g, 0, none⟩) ys.length cap) (.own id (m + 1)) := by
  have hid : id < s.hp.length := by
    rcases Nat.lt_or_ge id s.hp.length with h' | h'
    · exact h'
    · rw [List.getD_eq_getElem?_getD, List.getElem?_eq_none h'] at hb; cases hb
  have hg : (Loc.row m t (.slice (some ⟨g, 0, none⟩) n cap)).has g := rfl
  have hlt := (hR.place id _ g hI hg).2
  refine ⟨hR.upd hid (fun l0 h0 => ?_) (fun k hk hn => hT.block k hk fun e => hn _ hI (by rw [e]; exact hg)) (fun k hk => ?_) hT.os hT.tape hT.output hT.size fun hmono => ?_, own_new (iup_same _ _ _) rfl⟩
  · rw [hI] at h0; injection h0 with h0; subst h0
    exact .inr (.inr ⟨m, m + 1, t, _, _, rfl, rfl, Nat.lt_succ_self m⟩)
  · have : k = g := by injection (show some g = some k from hk) with e; exact e.symm
    subst this
    exact ⟨.inl ⟨_, hI, hg⟩, Nat.lt_of_lt_of_le hlt hT.size⟩
  · refine ⟨_, _, rfl, hm, ⟨?_, .inr ⟨g, cap, cur', rfl, Nat.zero_le _, hT.at_, hy, hcap, hcs, rfl⟩⟩, hall.mono fun v x h => hmono v x h⟩
    have e : cur'.toList.length = cap * width t := by rw [Array.length_toList, hcs]
    rw [List.length_take, e, Nat.min_eq_left (Nat.mul_le_mul_right _ hy)]
end
end Go.Proofs.YtnhipiedjekkpaaGreatDoor.AX
end
section
namespace Go.Proofs.YtnhipiedjekkpaaGreatDoor.AX
open Go Go.Shelf Go.RowKit Go.Lib
set_option linter.unusedVariables false
set_option linter.unusedSimpArgs false
def lays166_ren : Go.Shelf.Ren := ⟨fun | 166 => 21 | 240 => 42 | 276 => 77 | n => n, fun | 0 => 0 | 3 => 3 | 4 => 4 | 9 => 9 | 20 => 20 | 37 => 57 | 70 => 56 | 72 => 59 | 75 => 61 | 80 => 72 | 164 => 117 | 5 => 5 | n => n, fun | n => n⟩
theorem lays166 : Go.Proofs.Lays.n166 Tryz.prog lays166_ren := {
  mixed := by kernel_rfl
  f166 := Tryz.func21.trans (congrArg some (by kernel_rfl))
  f240 := Tryz.func42.trans (congrArg some (by kernel_rfl))
  f276 := Tryz.func77.trans (congrArg some (by kernel_rfl))
  t0 := Tryz.underlying0
  a0 := Tryz.isAgg0
  z0 := Tryz.sizeOf0
  v0 := Tryz.zeroValue0
  t3 := Tryz.underlying3
  a3 := Tryz.isAgg3
  z3 := Tryz.sizeOf3
  v3 := Tryz.zeroValue3
  t4 := Tryz.underlying4
  a4 := Tryz.isAgg4
  z4 := Tryz.sizeOf4
  v4 := Tryz.zeroValue4
  t9 := Tryz.underlying9
  a9 := Tryz.isAgg9
  z9 := Tryz.sizeOf9
  v9 := Tryz.zeroValue9
  t20 := Tryz.underlying20
  a20 := Tryz.isAgg20
  z20 := Tryz.sizeOf20
  v20 := Tryz.zeroValue20
  t37 := Tryz.underlying57
  a37 := Tryz.isAgg57
  z37 := Tryz.sizeOf57
  v37 := Tryz.zeroValue57
  t70 := Tryz.underlying56
  a70 := Tryz.isAgg56
  z70 := Tryz.sizeOf56
  v70 := Tryz.zeroValue56
  t72 := Tryz.underlying59
  a72 := Tryz.isAgg59
  z72 := Tryz.sizeOf59
  v72 := Tryz.zeroValue59
  t75 := Tryz.underlying61
  a75 := Tryz.isAgg61
  z75 := Tryz.sizeOf61
  v75 := Tryz.zeroValue61
  t164 := Tryz.underlying117
  a164 := Tryz.isAgg117
  z164 := Tryz.sizeOf117
  v164 := Tryz.zeroValue117 }
theorem extra166 : Builder.Extra Tryz.prog lays166_ren := {
  sizeBuilder := by kernel_rfl
  liesBuilder := by kernel_rfl
  t5 := Tryz.underlying5
  a5 := Tryz.isAgg5
  z5 := Tryz.sizeOf5
  v5 := Tryz.zeroValue5
  infoByte := by kernel_rfl
  cellsByte := by kernel_rfl
  sizeByte := by kernel_rfl
  neB5 := by decide }
def lays169_ren : Go.Shelf.Ren := ⟨fun | 169 => 24 | n => n, fun | 70 => 56 | 9 => 9 | 0 => 0 | 72 => 59 | 37 => 57 | 127 => 98 | 3 => 3 | 5 => 5 | n => n, fun | n => n⟩
theorem extra169 : Builder.Extra Tryz.prog lays169_ren := {
  sizeBuilder := by kernel_rfl
  liesBuilder := by kernel_rfl
  t5 := Tryz.underlying5
  a5 := Tryz.isAgg5
  z5 := Tryz.sizeOf5
  v5 := Tryz.zeroValue5
  infoByte := by kernel_rfl
  cellsByte := by kernel_rfl
  sizeByte := by kernel_rfl
  neB5 := by decide }


theorem app_string (w : World) (i : TypeInfo) (hi : Tryz.prog.info? 5 = some i) (hz : i.zero = some (.int .u8 0)) (hsize : i.size = 1) (hby : i.bytes = 1) (v : Value) (n : Nat) (xs : List Value) (hown : w.ownsRowF 0 5 1 v n xs) (s : ByteArray) (hl : n + s.size ≤ 140737488355328) (ty : TypeId) :
    ∃ v' w', (Builtin.append_ #[57, 9] ty #[v, .string s]).run Tryz.prog w = .ok v' w' ∧ w'.ownsRowF 0 5 1 v' (n + s.size) (xs ++ strCells s) ∧ w.grownBy w' v.ownBlock ∧ (v' = .slice none 0 0 ↔ v = .slice none 0 0 ∧ s.size = 0) ∧ ∀ k, v'.ownBlock = some k → v.ownBlock = some k ∨ w.heap.size ≤ k := by
  have h63 : n + s.size ≤ maxLen := by unfold maxLen; omega
  rcases hown.2 with ⟨rfl, rfl⟩ | ⟨g, cap, cur, fz, rfl, hbg, hg, hfz, hnc, hcm, hcs, htake⟩
  · obtain ⟨v', w', h1, h2, h3, h4⟩ := run_append_own_stringF (P := Tryz.prog) (w := w) w.heap.size 57 9 ty 5 i Tryz.underlying57 Tryz.underlying9 hi hz hsize hby (.slice none 0 0) 0 xs ⟨hown.1, .inl ⟨rfl, rfl⟩⟩ s h63 hl (Nat.le_refl _)
    refine ⟨v', w', h1, ⟨h2.1, ?_⟩, h3, h4, fun k hk => .inr (h2.lt k hk).1⟩
    rcases h2.2 with h | ⟨g, cap, cur, fz, e, _, r⟩
    · exact .inl h
    · exact .inr ⟨g, cap, cur, fz, e, Nat.zero_le _, r⟩
  · obtain ⟨v', w', h1, h2, h3, h4⟩ := run_append_own_stringF (P := Tryz.prog) (w := w) 0 57 9 ty 5 i Tryz.underlying57 Tryz.underlying9 hi hz hsize hby _ n xs hown s h63 hl (Nat.zero_le _)
    refine ⟨v', w', h1, h2, h3, h4, fun k hk => ?_⟩
    by_cases hroom : n + s.size ≤ cap
    · have hr := run_append_room_stringF (P := Tryz.prog) (w := w) 57 9 ty 5 i Tryz.underlying57 Tryz.underlying9 hi hsize g n cap cur fz hg (by simpa using hfz) s hroom (by omega)
      rw [hr] at h1
      injection h1 with h1 _
      subst h1
      exact .inl hk
    · have hr := run_append_grow_string (P := Tryz.prog) (w := w) 57 9 ty 5 i (.int .u8 0) Tryz.underlying57 Tryz.underlying9 hi hz ⟨g, 0, none⟩ n cap xs (by rw [hsize]; simpa using hown.1) (hown.cells (g := g) rfl) s (by omega) (by omega) (by rw [hby]; exact growslice_fits (by omega) (by omega))
      rw [hr] at h1
      injection h1 with h1 _
      subst h1
      cases hk
      exact .inr (Nat.le_refl _)
def BldPost (b : Nat) (v : Value) (n m : Nat) (vs news : List Value) (w : World) (e : Ending) (w' : World) : Prop :=
  (∃ r, e = .returned r) ∧ ∃ v', w'.heap[b]? = some (.cells #[.pointer (some ⟨b, 0, none⟩), v'] 59 (0, 0)) ∧ w'.ownsRowF 0 5 1 v' (n + m) (vs ++ news) ∧ v'.ownBlock ≠ some b ∧ (n + m = 0 → v = .slice none 0 0 → v' = .slice none 0 0) ∧
    (∀ k, v'.ownBlock = some k → v.ownBlock = some k ∨ w.heap.size ≤ k) ∧ w'.os = w.os ∧ w'.tape = w.tape ∧ w'.output = w.output ∧ w.heap.size ≤ w'.heap.size ∧ (∀ k, k < w.heap.size → k ≠ b → v.ownBlock ≠ some k → w'.heap[k]? = w.heap[k]?)
theorem copyCheck_walk (b : Nat) (p v : Value) (w : World) (hb : w.heap[b]? = some (.cells #[p, v] 59 (0, 0))) (hp : p = .pointer none ∨ p = .pointer (some ⟨b, 0, none⟩)) :
    Calls Tryz.prog 42 #[.pointer (some ⟨b, 0, none⟩)] w fun e w' => e = .returned (.tuple #[]) ∧ w'.heap[b]? = some (.cells #[.pointer (some ⟨b, 0, none⟩), v] 59 (0, 0)) ∧ w'.os = w.os ∧ w'.tape = w.tape ∧ w'.output = w.output ∧ w'.heap.size = w.heap.size ∧ (∀ k, k ≠ b → w'.heap[k]? = w.heap[k]?) := by
  rcases hp with rfl | rfl
  · refine (Any.Builder_copyCheck_fresh { lays166 with } extra166.toX72 b w (by rw [Lib.cell_of_heap hb]; rfl) (by simp [World.shape?, hb]; rfl) (Lib.frozen_of_heap hb 0)).mono ?_
    rintro e w' ⟨rfl, rfl⟩
    refine ⟨rfl, ?_, rfl, rfl, rfl, by simp [World.setCell], fun k hk => ?_⟩
    · simp [World.setCell, Array.getElem?_modify, hb]
    · simp [World.setCell, Array.getElem?_modify, Ne.symm hk]
  · refine (Any.Builder_copyCheck_used { lays166 with } extra166.toX72 b w (by rw [Lib.cell_of_heap hb]; rfl)).mono ?_
    rintro e w' ⟨rfl, rfl⟩
    exact ⟨rfl, hb, rfl, rfl, rfl, rfl, fun _ _ => rfl⟩
set_option maxHeartbeats 8000000 in
set_option maxRecDepth 1000000 in
theorem write_walk (b n : Nat) (p v : Value) (vs : List Value) (s : ByteArray) (w : World) (hb : w.heap[b]? = some (.cells #[p, v] 59 (0, 0))) (hp : p = .pointer none ∨ p = .pointer (some ⟨b, 0, none⟩)) (hne : v.ownBlock ≠ some b)
    (hown : w.ownsRowF 0 5 1 v n vs) (hl : n + s.size ≤ maxSl) :
    Calls Tryz.prog 21 #[.pointer (some ⟨b, 0, none⟩), .string s] w (BldPost b v n s.size vs (strCells s) w) := by
  obtain ⟨i0, hi, hz0, hz1, hz2⟩ := info_parts extra166.infoByte
  have mixed : Tryz.prog.follows Departure.mixedOrders = true := by kernel_rfl
  have hlt : b < w.heap.size := (Array.getElem?_eq_some_iff.1 hb).1
  unfold maxSl at hl
  go_enter Tryz.func21, Tryz.ntmps21
  go_wp2_with (go_at_call 42; refine (copyCheck_walk b p v _ hb hp).mono ?_)
  rintro e w1 ⟨rfl, h1, ho1, ht1, hu1, hs1, hk1⟩
  have c0 : w1.cell? ⟨b, 0, none⟩ = some (.pointer (some ⟨b, 0, none⟩)) := by rw [Lib.cell_of_heap h1]; rfl
  have c1 : w1.cell? ⟨b, 1, none⟩ = some v := by rw [Lib.cell_of_heap h1]; rfl
  have hown1 : w1.ownsRowF 0 5 1 v n vs := ownsRowF_mono hown fun k hk => hk1 k fun e => hne (by rw [hk, e])
  obtain ⟨v', w2, hrun, hown', hgrow, hnil, hplace⟩ := app_string w1 i0 hi hz0 hz1 hz2 v n vs hown1 s hl 57
  have hb2 : w2.heap[b]? = some (.cells #[.pointer (some ⟨b, 0, none⟩), v] 59 (0, 0)) := by
    rw [hgrow.block b (by omega) (fun e => hne e.symm)]
    exact h1
  have d0 : w2.cell? ⟨b, 0, none⟩ = some (.pointer (some ⟨b, 0, none⟩)) := by rw [Lib.cell_of_heap hb2]; rfl
  have d1 : w2.cell? ⟨b, 1, none⟩ = some v := by rw [Lib.cell_of_heap hb2]; rfl
  have f1 : w2.frozen? ⟨b, 1, none⟩ = false := Lib.frozen_of_heap hb2 1
  have hv' : v'.ownBlock ≠ some b ∧ ∀ k, v'.ownBlock = some k → v.ownBlock = some k ∨ w.heap.size ≤ k := by
    refine ⟨fun e => ?_, fun k hk => by rw [← hs1]; exact hplace k hk⟩
    rcases hplace b e with h | h
    · exact hne h
    · omega
  obtain ⟨ao, n', cap, rfl⟩ : ∃ ao n' cap, v' = .slice ao n' cap := by
    rcases hown'.2 with ⟨hv, _⟩ | ⟨g, cap, cur, fz, hv, _⟩
    · exact ⟨_, _, _, hv⟩
    · exact ⟨_, _, _, hv⟩
  have hnil : Hid (Value.slice ao n' cap = .slice none 0 0 ↔ v = .slice none 0 0 ∧ s.size = 0) := hnil
  go_wp2_with (at_builtin; refine Lib.wpList_append_run _ rfl _ _ _ _ rfl _ _ rfl rfl _ _ hrun ?_)
  go_ret2
  have hset : ∀ k, k ≠ b → (w2.setCell ⟨b, 1, none⟩ (.slice ao n' cap)).heap[k]? = w2.heap[k]? := fun k hk => by simp [World.setCell, Array.getElem?_modify, Ne.symm hk]
  refine ⟨⟨_, rfl⟩, .slice ao n' cap, by simp [World.setCell, Array.getElem?_modify, hb2], ownsRowF_mono hown' fun k hk => hset k fun e => hv'.1 (by rw [hk, e]), hv'.1, fun h0 hv => ?_, hv'.2, hgrow.os.trans ho1, hgrow.tape.trans ht1, hgrow.output.trans hu1, ?_, fun k hk hkb hkv => ?_⟩
  · exact hnil.out.2 ⟨hv, by omega⟩
  · show w.heap.size ≤ (w2.setCell ⟨b, 1, none⟩ (.slice ao n' cap)).heap.size
    have := hgrow.size
    simp only [World.setCell, Array.size_modify]; omega
  · exact (hset k hkb).trans ((hgrow.block k (by omega) (Ne.symm hkv)).trans (hk1 k hkb))
def StrPost (b : Nat) (v : Value) (s : ByteArray) (vs : List Value) (w : World) (e : Ending) (w' : World) : Prop :=
  e = .returned (.string s) ∧ w'.heap[b]? = w.heap[b]? ∧ w'.ownsRowF 0 5 1 v s.size vs ∧ w'.os = w.os ∧ w'.tape = w.tape ∧ w'.output = w.output ∧ w'.heap.size = w.heap.size ∧ (∀ k, v.ownBlock ≠ some k → w'.heap[k]? = w.heap[k]?)
set_option maxHeartbeats 8000000 in
set_option maxRecDepth 1000000 in
theorem string_walk (b : Nat) (p v : Value) (s : ByteArray) (vs : List Value) (w : World) (hb : w.heap[b]? = some (.cells #[p, v] 59 (0, 0))) (hne : v.ownBlock ≠ some b)
    (hown : w.ownsRowF 0 5 1 v s.size vs) (hvs : vs = s.data.toList.map fun b => .int .u8 b.toNat) (h0 : s.size = 0 → v = .slice none 0 0) :
    Calls Tryz.prog 24 #[.pointer (some ⟨b, 0, none⟩)] w (StrPost b v s vs w) := by
  have mixed : Tryz.prog.follows Departure.mixedOrders = true := by kernel_rfl
  rcases Nat.eq_zero_or_pos s.size with hz | hz
  · have hv := h0 hz
    subst hv
    have es : s = ⟨#[]⟩ := by
      cases s with | mk d =>
      have : d = #[] := Array.eq_empty_of_size_eq_zero hz
      rw [this]
    have hUS : ∀ w, (Builtin.unsafeString_ #[98, 3] 9 #[.pointer none, .int .i64 0]).run Tryz.prog w = .ok (.string ⟨#[]⟩) w := fun w => Lib.run_unsafeString_none w _ _ _ none
    have c1 : w.drew.cell? ⟨b, 1, none⟩ = some (.slice none 0 0) := by
      have : w.drew.heap[b]? = some (.cells #[p, .slice none 0 0] 59 (0, 0)) := hb
      rw [Lib.cell_of_heap this]; rfl
    have hSD : (Builtin.unsafeSliceData_ #[57] 98 #[.slice none 0 0]).run Tryz.prog w.drew = .ok (.pointer none) w.drew := rfl
    have hown' : Hid (w.ownsRowF 0 5 1 (.slice none 0 0) s.size vs) := hown
    clear hown hvs h0 hne
    subst es
    go_enter Tryz.func24, Tryz.ntmps24
    go_wp2
    go_region_o
    all_goals (go_wp2; go_ret; exact ⟨rfl, rfl, ownsRowF_mono hown'.out fun _ _ => rfl, rfl, rfl, rfl, rfl, fun _ _ => rfl⟩)
  · obtain ⟨g, cap, cur, fz, rfl, hg, hfz, hnc, hcm, hcs, htake⟩ : ∃ g cap cur fz, v = .slice (some ⟨g, 0, none⟩) s.size cap ∧ w.heap[g]? = some (.cells cur 5 fz) ∧ fz.2 ≤ s.size * 1 ∧ s.size ≤ cap ∧ cap ≤ maxLen ∧ cur.size = cap * 1 ∧ cur.toList.take (s.size * 1) = vs := by
      rcases hown.2 with ⟨_, h⟩ | ⟨g, cap, cur, fz, hv, _, r⟩
      · omega
      · exact ⟨g, cap, cur, fz, hv, r⟩
    obtain ⟨l, hl⟩ : ∃ l, l = s.data.toList := ⟨_, rfl⟩
    have hll : l.length = s.size := by rw [hl, Array.length_toList]; rfl
    have hl0 : l ≠ [] := fun e => by rw [e] at hll; simp at hll; omega
    have es : s = ⟨l.toArray⟩ := by rw [hl]
    have c1 : w.drew.cell? ⟨b, 1, none⟩ = some (.slice (some ⟨g, 0, none⟩) s.size cap) := by
      have : w.drew.heap[b]? = some (.cells #[p, .slice (some ⟨g, 0, none⟩) s.size cap] 59 (0, 0)) := hb
      rw [Lib.cell_of_heap this]; rfl
    have hcap0 : cap ≠ 0 := by omega
    have hSD : (Builtin.unsafeSliceData_ #[57] 98 #[.slice (some ⟨g, 0, none⟩) s.size cap]).run Tryz.prog w.drew = .ok (.pointer (some ⟨g, 0, none⟩)) w.drew :=
      Lib.run_unsafeSliceData_row _ _ _ _ _ _ hcap0
    have hUS : (Builtin.unsafeString_ #[98, 3] 9 #[.pointer (some ⟨g, 0, none⟩), .int .i64 s.size]).run Tryz.prog w.drew = .ok (.string ⟨l.toArray⟩) (w.drew.freeze ⟨g, 0, none⟩ s.size) := by
      rw [← hll]
      refine Lib.run_unsafeString_row w.drew 98 3 9 5 Tryz.underlying98 extra169.cellsByte g cur.size (by have hg' : w.drew.heap[g]? = some (.cells cur 5 fz) := hg; simp [World.shape?, hg']) l hl0 (by omega) (by unfold maxLen at hcm; omega) ?_
      intro j x hx
      have hj : vs[j]? = some (.int .u8 x.toNat) := by rw [hvs, ← hl, List.getElem?_map, hx]; rfl
      exact hown.cells (g := g) rfl j _ hj
    have hF : Hid (∀ k, (w.drew.freeze ⟨g, 0, none⟩ s.size).heap[k]? = if g = k then some (.cells cur 5 (if fz.1 == fz.2 then (0, s.size) else (min fz.1 0, max fz.2 s.size))) else w.heap[k]?) := fun k => by
      have hl1 : s.size ≠ 0 := by omega
      have hgd : w.drew.heap[g]? = some (.cells cur 5 fz) := hg
      have hs : w.drew.heap[k]? = w.heap[k]? := rfl
      simp only [World.freeze, if_neg hl1, Array.getElem?_modify]
      split
      · rename_i e
        subst e
        rw [hgd]
        simp only [Option.map_some, Nat.zero_add]
      · exact hs
    have hown' : Hid (w.ownsRowF 0 5 1 (.slice (some ⟨g, 0, none⟩) s.size cap) s.size vs) := hown
    have HG : Hid (w.heap[g]? = some (.cells cur 5 fz)) := hg
    have HT : Hid (cur.toList.take (s.size * 1) = vs) := htake
    have HN : Hid ((Value.slice (some ⟨g, 0, none⟩) s.size cap).ownBlock ≠ some b) := hne
    have HB : Hid (w.heap[b]? = some (.cells #[p, .slice (some ⟨g, 0, none⟩) s.size cap] 59 (0, 0))) := hb
    have HL : Hid (vs.length = s.size * 1) := hown.1
    have HF : Hid (fz.2 ≤ s.size * 1) := hfz
    clear hown hvs h0 hg htake hne hb hfz
    have HE : Hid (s = ⟨l.toArray⟩) := es
    have HLL : Hid (l.length = s.size) := hll
    clear es hl
    go_enter Tryz.func24, Tryz.ntmps24
    go_wp2
    go_region_o
    all_goals
      go_wp2
      go_ret
      refine ⟨congrArg Ending.returned (show Value.string ⟨l.toArray⟩ = .string s from by rw [HE.out]), ?_, ⟨HL.out, .inr ⟨g, cap, cur, _, rfl, Nat.zero_le _, by rw [hF.out, if_pos rfl], ?_, hnc, hcm, hcs, HT.out⟩⟩, ?_, ?_, ?_, ?_, fun k hk => ?_⟩
      · rw [hF.out, if_neg (fun e => HN.out (by rw [← e]; rfl))]
      · have := HF.out
        split
        · show s.size ≤ s.size * 1; omega
        · show max fz.2 s.size ≤ s.size * 1; omega
      · simp only [World.freeze]; split <;> rfl
      · simp only [World.freeze]; split <;> rfl
      · simp only [World.freeze]; split <;> rfl
      · simp only [World.freeze]; split
        · rfl
        · simp
      · rw [hF.out, if_neg (fun e => hk (by rw [← e]; rfl))]
end Go.Proofs.YtnhipiedjekkpaaGreatDoor.AX
end
section
namespace Go.Proofs.YtnhipiedjekkpaaGreatDoor.AX
open Go Go.RowKit
section
variable {tid : Env} {w0 w w' : World} {E F : Nat → Prop} {I : Im} {s : St} {a : Act}
theorem Rel.bldTurn (hR : Rel tid w0 E F I s a w) {id b : Nat} {v v' p : Value} {vs : List Value} {t t' : ByteArray} (hb : s.hp.getD id none = some (.bld t)) (hI : I id = some (.bld b v))
    (h1 : w'.heap[b]? = some (.cells #[p, v'] (tid .bld) (0, 0))) (hp : p = .pointer none ∨ p = .pointer (some ⟨b, 0, none⟩)) (hne : v'.ownBlock ≠ some b) (hown : w'.ownsRowF 0 (tid .u8) 1 v' t'.size vs) (hvs : vs = t'.data.toList.map fun b => .int .u8 b.toNat) (h0 : t'.size = 0 → v' = .slice none 0 0)
    (hpl : ∀ k, v'.ownBlock = some k → v.ownBlock = some k ∨ w.heap.size ≤ k) (hos : w'.os = w.os) (htape : w'.tape = w.tape) (hout : w'.output = w.output) (hsz : w.heap.size ≤ w'.heap.size)
    (hk : ∀ k, k < w.heap.size → k ≠ b → v.ownBlock ≠ some k → w'.heap[k]? = w.heap[k]?) :
    Rel tid w0 E F (iup I id (.bld b v')) ⟨s.tm, s.hp.set id (some (.bld t'))⟩ a w' := by
  have hid : id < s.hp.length := by
    rcases Nat.lt_or_ge id s.hp.length with h' | h'
    · exact h'
    · rw [List.getD_eq_getElem?_getD, List.getElem?_eq_none h'] at hb; cases hb
  have hI' : ImLe I (iup I id (.bld b v')) := by
    intro k lk hkk
    by_cases e : k = id
    · subst e
      rw [hI] at hkk; injection hkk with hkk; subst hkk
      exact ⟨_, iup_same _ _ _, .inr (.inr (.inr ⟨b, v, v', rfl, rfl⟩))⟩
    · exact ⟨lk, by rw [iup_ne _ _ e]; exact hkk, .inl rfl⟩
  have hlt : b < w.heap.size := (hR.place id _ b hI (.inl rfl)).2
  have hlt' : b < w'.heap.size := Nat.lt_of_lt_of_le hlt hsz
  have hv' : ∀ k, v'.ownBlock = some k → k < w'.heap.size := fun k hk => (hown.lt k hk).2
  have hO : ∀ g, g < w.heap.size → Own F (iup I id (.bld b v')) g → Own F I g := by
    intro g hg h
    rcases h with h | ⟨k, lk, hkk, hh⟩
    · exact .inl h
    · by_cases e : k = id
      · subst e
        rw [iup_same] at hkk
        injection hkk with hkk
        subst hkk
        rcases hh with rfl | hh
        · exact .inr ⟨k, _, hI, .inl rfl⟩
        · rcases hpl g hh with h | h
          · exact .inr ⟨k, _, hI, .inr h⟩
          · omega
      · rw [iup_ne _ _ e] at hkk
        exact .inr ⟨k, lk, hkk, hh⟩
  have hw' : ∀ g, ¬ Own F I g → g < w.heap.size → w'.heap[g]? = w.heap[g]? := fun g hn hg => hk g hg (fun e => hn (.inr ⟨id, _, hI, .inl e⟩)) (fun e => hn (.inr ⟨id, _, hI, .inr e⟩))
  have old : ∀ k lk g, k ≠ id → I k = some lk → lk.has g → ¬ (Loc.bld b v').has g := fun k lk g e h1 h2 h3 => by
    have hg := (hR.place k lk g h1 h2).2
    rcases h3 with h3 | h3
    · exact e (hR.inj k id lk _ g h1 hI h2 (.inl h3))
    · rcases hpl g h3 with h | h
      · exact e (hR.inj k id lk _ g h1 hI h2 (.inr h))
      · omega
  refine ⟨hR.defers, hR.tm.mono fun _ _ h => h.mono hw' hO hI', fun k => ?_, fun k k' lk lk' g hk1 hk2 h3 h4 => ?_, fun k lk g h1 h2 hF => ?_, fun k lk g h1 h2 => ?_, hR.out, hos.trans hR.os, htape.trans hR.tape, hout.trans hR.output, Nat.le_trans hR.size hsz, fun g hg hE => ?_, hR.glob.mono hw' hO⟩
  · by_cases e : k = id
    · subst e
      rw [getD_set_same hid]
      exact ⟨_, iup_same _ _ _, b, v', p, _, vs, rfl, rfl, h1, hp, hne, hown, hvs, h0⟩
    · rw [getD_set_ne e, iup_ne _ _ e]
      have hkk := hR.hp k
      generalize s.hp.getD k none = ob at hkk ⊢
      cases ob with
      | some bk =>
        obtain ⟨lk, q1, q2⟩ := hkk
        refine ⟨lk, q1, q2.mono hw' hO hI' fun g hg => hk g (hR.place k lk g q1 hg).2 (fun e' => ?_) (fun e' => ?_)⟩
        · exact e (hR.inj k id lk _ g q1 hI hg (.inl e'))
        · exact e (hR.inj k id lk _ g q1 hI hg (.inr e'))
      | none => exact hkk
  · by_cases e : k = id
    · by_cases e' : k' = id
      · rw [e, e']
      · subst e
        rw [iup_same] at hk1; injection hk1 with hk1; subst hk1
        rw [iup_ne _ _ e'] at hk2
        exact absurd h3 (old k' lk' g e' hk2 h4)
    · rw [iup_ne _ _ e] at hk1
      by_cases e' : k' = id
      · subst e'
        rw [iup_same] at hk2; injection hk2 with hk2; subst hk2
        exact absurd h4 (old k lk g e hk1 h3)
      · rw [iup_ne _ _ e'] at hk2
        exact hR.inj k k' lk lk' g hk1 hk2 h3 h4
  · by_cases e : k = id
    · subst e
      rw [iup_same] at h1; injection h1 with h1; subst h1
      rcases h2 with h2 | h2
      · exact hR.apart k _ g hI (.inl h2) hF
      · rcases hpl g h2 with h | h
        · exact hR.apart k _ g hI (.inr h) hF
        · have := hR.out g hF; have := hR.size; omega
    · rw [iup_ne _ _ e] at h1
      exact hR.apart k lk g h1 h2 hF
  · by_cases e : k = id
    · subst e
      rw [iup_same] at h1; injection h1 with h1; subst h1
      rcases h2 with h2 | h2
      · exact ⟨(hR.place k _ g hI (.inl h2)).1, by rw [h2]; exact hlt'⟩
      · rcases hpl g h2 with h | h
        · exact ⟨(hR.place k _ g hI (.inr h)).1, hv' g h2⟩
        · exact ⟨.inr (Nat.le_trans hR.size h), hv' g h2⟩
    · rw [iup_ne _ _ e] at h1
      have := hR.place k lk g h1 h2
      exact ⟨this.1, Nat.lt_of_lt_of_le this.2 hsz⟩
  · have hg' := Nat.lt_of_lt_of_le hg hR.size
    refine (hk g hg' (fun e => ?_) (fun e => ?_)).trans (hR.kept g hg hE)
    · rcases (hR.place id _ g hI (.inl e)).1 with h | h
      · exact hE h
      · omega
    · rcases (hR.place id _ g hI (.inr e)).1 with h | h
      · exact hE h
      · omega
end
theorem strCells_eq (s : ByteArray) : Lib.strCells s = s.data.toList.map fun b => Value.int .u8 b.toNat := rfl
def conWrite : Con := fun args hp => match args, hp with
  | [.ptr 0 0, .str s], [.bld t] => some { pre := some (t.size + s.size ≤ maxSl), res := .any, hp := [.bld (t ++ s)] }
  | _, _ => none
theorem write_holds : Holds 21 conWrite := by
  intro args hp ans hc
  unfold conWrite at hc
  split at hc
  case h_2 => cases hc
  rename_i s t
  injection hc with hc
  subst hc
  intro F I w vals hH hv hpre
  have p1 : t.size + s.size ≤ maxSl := hpre _ rfl
  cases hv with | cons a0 q => cases q with | cons a1 q => cases q with | nil =>
  rename_i v0 v1
  have hR := HRel.toRel hH
  obtain ⟨l0, hl0, g, v, p, ty, vs, rfl, rfl, h1, h2, h3, h4, h5, h6⟩ := hH.hp 0
  have e0 : v0 = .pointer (some ⟨g, 0, none⟩) := (ValR.ptr (w := w) (show ValR w (Own F I) I v0 (.ptr 0 0) from a0)).2.2.2 g v hl0 rfl
  obtain ⟨e1, _⟩ := (show ValR w (Own F I) I v1 (.str s) from a1).str
  subst e0; subst e1
  refine (write_walk g t.size p v vs s w h1 h2 h3 h4 p1).mono ?_
  rintro e w' ⟨⟨r, rfl⟩, v', q1, q2, q3, q4, q5, q6, q7, q8, q9, q10⟩
  have hsz : (t ++ s).size = t.size + s.size := ByteArray.size_append
  have hR' := hR.bldTurn (id := 0) (t' := t ++ s) (t := t) rfl hl0 q1 (.inr rfl) q3 (by rw [hsz]; exact q2) (by rw [h5, strCells_eq, ByteArray.data_append, Array.toList_append, List.map_append]) (fun hz => q4 (by omega) (h6 (by omega))) q5 q6 q7 q8 q9 q10
  refine Rel.post (ans := { pre := some (t.size + s.size ≤ maxSl), res := .any, hp := [.bld (t ++ s)] }) hR' trivial rfl fun i hi => ?_
  have : i = 0 := by simp at hi; exact hi
  subst this
  refine ⟨fun b hb => ?_, fun b u hb => ?_, fun n t' u hb => ?_⟩
  · rw [hl0] at hb; injection hb with hb; cases hb
  · rw [hl0] at hb; injection hb with hb; injection hb with hb; subst hb; exact ⟨v', iup_same _ _ _⟩
  · rw [hl0] at hb; injection hb with hb; cases hb
def conString : Con := fun args hp => match args, hp with
  | [.ptr 0 0], [.bld t] => some { pre := some (t.size ≤ maxSl), res := .str t, hp := [.bld t] }
  | _, _ => none
theorem string_holds : Holds 24 conString := by
  intro args hp ans hc
  unfold conString at hc
  split at hc
  case h_2 => cases hc
  rename_i t
  injection hc with hc
  subst hc
  intro F I w vals hH hv hpre
  cases hv with | cons a0 q => cases q with | nil =>
  rename_i v0
  have hR := HRel.toRel hH
  obtain ⟨l0, hl0, g, v, p, ty, vs, rfl, rfl, h1, h2, h3, h4, h5, h6⟩ := hH.hp 0
  have e0 : v0 = .pointer (some ⟨g, 0, none⟩) := (ValR.ptr (w := w) (show ValR w (Own F I) I v0 (.ptr 0 0) from a0)).2.2.2 g v hl0 rfl
  subst e0
  refine (string_walk g p v t vs w h1 h3 h4 h5 h6).mono ?_
  rintro e w' ⟨rfl, q1, q2, q3, q4, q5, q6, q7⟩
  have hR' := hR.bldTurn (id := 0) (t' := t) (t := t) rfl hl0 (q1.trans h1) h2 h3 q2 h5 h6 (fun k hk => .inl hk) q3 q4 q5 (by omega) (fun k _ _ hk => q7 k hk)
  have hsz : t.size ≤ maxSl := hpre _ rfl
  refine Rel.post (ans := { pre := some (t.size ≤ maxSl), res := .str t, hp := [.bld t] }) hR' (.leaf (.str t hsz)) rfl fun i hi => ?_
  have : i = 0 := by simp at hi; exact hi
  subst this
  refine ⟨fun b hb => ?_, fun b u hb => ?_, fun n t' u hb => ?_⟩
  · rw [hl0] at hb; injection hb with hb; cases hb
  · rw [hl0] at hb; injection hb with hb; injection hb with hb; subst hb; exact ⟨v, iup_same _ _ _⟩
  · rw [hl0] at hb; injection hb with hb; cases hb
end Go.Proofs.YtnhipiedjekkpaaGreatDoor.AX
end
section
namespace Go.Proofs.YtnhipiedjekkpaaGreatDoor.AXP
open Go Go.Proofs.YtnhipiedjekkpaaGreatDoor.AX
def dig6 : Nat → Nat → List UInt8
  | 0, _ => []
  | f + 1, n => if n = 0 then [] else dig6 f (n / 256) ++ [UInt8.ofNat (n % 256)]
def b256 (n : Nat) : List UInt8 := dig6 n n
def v256 (l : List UInt8) : Nat := l.foldl (fun v d => v * 256 + d.toNat) 0
theorem v256_snoc (l : List UInt8) (d : UInt8) : v256 (l ++ [d]) = v256 l * 256 + d.toNat := by unfold v256; rw [List.foldl_append]; rfl
theorem dig6_fuel : ∀ (f g n : Nat), n ≤ f → n ≤ g → dig6 f n = dig6 g n
  | 0, g, n, hf, _ => by
    obtain rfl : n = 0 := by omega
    cases g <;> rfl
  | f + 1, 0, n, _, hg => by
    obtain rfl : n = 0 := by omega
    rfl
  | f + 1, g + 1, n, hf, hg => by
    rw [dig6, dig6]
    split
    · rfl
    · rw [dig6_fuel f g (n / 256) (by omega) (by omega)]
theorem b256_eq (n : Nat) : b256 n = if n = 0 then [] else b256 (n / 256) ++ [UInt8.ofNat (n % 256)] := by
  unfold b256
  cases n with
  | zero => rfl
  | succ n =>
    rw [dig6]
    split
    · rfl
    · rw [dig6_fuel n ((n + 1) / 256) _ (by omega) (Nat.le_refl _)]
theorem u8_of {n : Nat} (h : n < 256) : (UInt8.ofNat n).toNat = n := by rw [UInt8.toNat_ofNat']; omega
theorem v256_b : ∀ n, v256 (b256 n) = n := fun n => by
  induction n using Nat.strongRecOn with
  | ind n ih =>
    rw [b256_eq]
    split
    · rename_i h; rw [h]; rfl
    · rw [v256_snoc, ih (n / 256) (by omega), u8_of (by omega)]; omega
theorem b256_head : ∀ n, (b256 n).head? ≠ some 0 := fun n => by
  induction n using Nat.strongRecOn with
  | ind n ih =>
    rw [b256_eq]
    split
    · simp
    · rename_i h
      cases hb : b256 (n / 256) with
      | nil =>
        have hv := v256_b (n / 256)
        rw [hb] at hv
        have hv : 0 = n / 256 := hv
        intro e
        simp only [List.nil_append, List.head?_cons, Option.some.injEq] at e
        have := congrArg UInt8.toNat e
        rw [u8_of (by omega)] at this
        have : n % 256 = 0 := this
        omega
      | cons a l =>
        have := ih (n / 256) (by omega)
        rw [hb] at this
        simpa using this
theorem b256_len : ∀ (k n : Nat), n < 256 ^ k → (b256 n).length ≤ k
  | 0, n, h => by
    obtain rfl : n = 0 := by simpa using h
    exact Nat.le_refl _
  | k + 1, n, h => by
    rw [b256_eq]
    split
    · exact Nat.zero_le _
    · have := b256_len k (n / 256) (by rw [Nat.pow_succ] at h; omega)
      rw [List.length_append, List.length_cons, List.length_nil]; omega
theorem b256_v : ∀ (k : Nat) (l : List UInt8), l.length ≤ k → l.head? ≠ some 0 → b256 (v256 l) = l
  | 0, l, h, _ => by
    obtain rfl := List.eq_nil_of_length_eq_zero (Nat.le_zero.1 h)
    rfl
  | k + 1, l, h, h0 => by
    rcases List.eq_nil_or_concat l with rfl | ⟨m, d, rfl⟩
    · rfl
    · rw [List.concat_eq_append] at h h0 ⊢
      rw [v256_snoc]
      have hd := UInt8.toNat_lt d
      have hd : d.toNat < 256 := hd
      cases m with
      | nil =>
        have hz : d.toNat ≠ 0 := fun e => h0 (by
          have : d = 0 := UInt8.toNat.inj e
          rw [this]; rfl)
        rw [b256_eq, if_neg (by simp [v256]; exact hz)]
        show b256 ((0 * 256 + d.toNat) / 256) ++ [UInt8.ofNat ((0 * 256 + d.toNat) % 256)] = [d]
        rw [Nat.zero_mul, Nat.zero_add, Nat.div_eq_of_lt hd, Nat.mod_eq_of_lt hd, UInt8.ofNat_toNat]
        rfl
      | cons a m =>
        have hm0 : (a :: m).head? ≠ some 0 := by simpa using h0
        have ih := b256_v k (a :: m) (by simp only [List.length_append, List.length_cons, List.length_nil] at h ⊢; omega) hm0
        have hpos : v256 (a :: m) ≠ 0 := fun e => by
          rw [e] at ih
          cases ih
        rw [b256_eq, if_neg (by omega), show (v256 (a :: m) * 256 + d.toNat) / 256 = v256 (a :: m) by omega, show (v256 (a :: m) * 256 + d.toNat) % 256 = d.toNat by omega, ih, UInt8.ofNat_toNat]
def numL (n : Nat) : List UInt8 := UInt8.ofNat (b256 n).length :: b256 n
def takeN : List UInt8 → Option (Nat × List UInt8)
  | [] => none
  | k :: r => if k.toNat > 6 then none else if r.length < k.toNat then none else if (r.take k.toNat).head? = some 0 then none else if v256 (r.take k.toNat) > 1099511627776 then none else some (v256 (r.take k.toNat), r.drop k.toNat)
theorem take_num {n : Nat} (h : n ≤ 1099511627776) (r : List UInt8) : takeN (numL n ++ r) = some (n, r) := by
  have hl : (b256 n).length ≤ 6 := b256_len 6 n (by omega)
  have hu : (UInt8.ofNat (b256 n).length).toNat = (b256 n).length := u8_of (by omega)
  unfold numL
  rw [List.cons_append, takeN, hu, if_neg (by omega), if_neg (by rw [List.length_append]; omega), List.take_left, if_neg (b256_head n), v256_b, if_neg (by omega), List.drop_left]
theorem take_num_inv {b r : List UInt8} {n : Nat} (h : takeN b = some (n, r)) : b = numL n ++ r ∧ n ≤ 1099511627776 := by
  cases b with
  | nil => cases h
  | cons k t =>
    rw [takeN] at h
    split at h
    · cases h
    rename_i h1
    split at h
    · cases h
    rename_i h2
    split at h
    · cases h
    rename_i h3
    split at h
    · cases h
    rename_i h4
    injection h with h
    injection h with e1 e2
    subst e1; subst e2
    have e := b256_v _ (t.take k.toNat) (Nat.le_refl _) h3
    have hl : (t.take k.toNat).length = k.toNat := by rw [List.length_take]; omega
    refine ⟨?_, by omega⟩
    unfold numL
    rw [e, hl, UInt8.ofNat_toNat, List.cons_append, List.take_append_drop]
theorem take_num_lt {b r : List UInt8} {n : Nat} (h : takeN b = some (n, r)) : r.length < b.length := by
  obtain ⟨rfl, _⟩ := take_num_inv h
  unfold numL
  rw [List.length_append, List.length_cons]; omega
def txtL (s : List UInt8) : List UInt8 := numL s.length ++ s
def takeT (b : List UInt8) : Option (List UInt8 × List UInt8) :=
  match takeN b with
  | none => none
  | some (n, r) => if n > 65536 ∨ n > r.length then none else some (r.take n, r.drop n)
theorem take_txt {s : List UInt8} (h : s.length ≤ 65536) (r : List UInt8) : takeT (txtL s ++ r) = some (s, r) := by
  unfold takeT txtL
  rw [List.append_assoc, take_num (by omega)]
  simp only
  rw [if_neg (by rw [List.length_append]; omega), List.take_left, List.drop_left]
theorem take_txt_inv {b s r : List UInt8} (h : takeT b = some (s, r)) : b = txtL s ++ r ∧ s.length ≤ 65536 := by
  unfold takeT at h
  split at h
  · cases h
  · rename_i n t hn
    obtain ⟨rfl, _⟩ := take_num_inv hn
    split at h
    · cases h
    · rename_i hc
      injection h with h
      injection h with e1 e2
      subst e1; subst e2
      have hl : (t.take n).length = n := by rw [List.length_take]; omega
      refine ⟨?_, by omega⟩
      unfold txtL
      rw [hl, List.append_assoc, List.take_append_drop]
end Go.Proofs.YtnhipiedjekkpaaGreatDoor.AXP
end
section
namespace Go.Proofs.YtnhipiedjekkpaaGreatDoor.AXP
open Go Go.Proofs.YtnhipiedjekkpaaGreatDoor.AX
def kb (b : ByteArray) : List UInt8 := b.data.toList
def bk (l : List UInt8) : ByteArray := ⟨l.toArray⟩
theorem kb_bk (l : List UInt8) : kb (bk l) = l := by simp [kb, bk]
theorem bk_kb (b : ByteArray) : bk (kb b) = b := by cases b; simp [kb, bk]
theorem kb_inj {a b : ByteArray} (h : kb a = kb b) : a = b := by rw [← bk_kb a, ← bk_kb b, h]
theorem kb_size (b : ByteArray) : (kb b).length = b.size := by unfold kb; rw [Array.length_toList]; rfl
theorem kb_app (a b : ByteArray) : kb (a ++ b) = kb a ++ kb b := by unfold kb; rw [ByteArray.data_append, Array.toList_append]
def leafB (n : Nd) : Bool := n.kind == 2 || n.kind == 3
def attL : List At → List UInt8
  | [] => []
  | a :: l => txtL (kb a.name) ++ txtL (kb a.value) ++ attL l
mutual
def ndL : Nd → List UInt8
  | ⟨k, s, m, a, t, c⟩ => numL k.toNat ++ (if (k == 2 || k == 3) = true then txtL (kb t) else numL s.toNat ++ txtL (kb m) ++ numL a.length ++ attL a ++ (numL c.length ++ ndsL c))
def ndsL : List Nd → List UInt8
  | [] => []
  | n :: l => ndL n ++ ndsL l
end
def bytesL (l : List Nd) : List UInt8 := numL l.length ++ ndsL l
theorem ndL_eq (n : Nd) : ndL n = numL n.kind.toNat ++ (if leafB n = true then txtL (kb n.text) else numL n.space.toNat ++ txtL (kb n.name) ++ numL n.attrs.length ++ attL n.attrs ++ bytesL n.kids) := by cases n; rw [ndL]; rfl
def pAtts : Nat → List UInt8 → Option (List At × List UInt8)
  | 0, b => some ([], b)
  | c + 1, b => match takeT b with
    | none => none
    | some (x, r) => match takeT r with
      | none => none
      | some (y, r') => match pAtts c r' with
        | none => none
        | some (l, z) => some (⟨bk x, bk y⟩ :: l, z)
def pNd (pk : List UInt8 → Option (List Nd × List UInt8)) (b : List UInt8) : Option (Nd × List UInt8) :=
  match takeN b with
  | none => none
  | some (k, r) => if k > 3 then none else if k = 2 ∨ k = 3 then
      match takeT r with
      | none => none
      | some (t, z) => some (⟨k, 0, bk [], [], bk t, []⟩, z)
    else match takeN r with
      | none => none
      | some (s, r1) => match takeT r1 with
        | none => none
        | some (m, r2) => match takeN r2 with
          | none => none
          | some (c, r3) => if s > 2 ∨ c > 12 then none else match pAtts c r3 with
            | none => none
            | some (a, r4) => match pk r4 with
              | none => none
              | some (l, z) => some (⟨k, s, bk m, a, bk [], l⟩, z)
def pMany (f : List UInt8 → Option (Nd × List UInt8)) : Nat → List UInt8 → Option (List Nd × List UInt8)
  | 0, b => some ([], b)
  | c + 1, b => match f b with
    | none => none
    | some (x, r) => match pMany f c r with
      | none => none
      | some (l, z) => some (x :: l, z)
def pNds : Nat → List UInt8 → Option (List Nd × List UInt8)
  | 0, _ => none
  | d + 1, b => match takeN b with
    | none => none
    | some (c, r) => if c > 300 then none else pMany (pNd (pNds d)) c r
theorem pAtts_inv : ∀ {c : Nat} {b r : List UInt8} {l : List At}, pAtts c b = some (l, r) → b = attL l ++ r ∧ l.length = c
  | 0, b, r, l, h => by
    rw [pAtts] at h
    injection h with h
    injection h with e1 e2
    subst e1; subst e2
    exact ⟨rfl, rfl⟩
  | c + 1, b, r, l, h => by
    rw [pAtts] at h
    split at h
    · cases h
    rename_i x r1 h1
    split at h
    · cases h
    rename_i y r2 h2
    split at h
    · cases h
    rename_i l' z h3
    injection h with h
    injection h with e1 e2
    subst e1; subst e2
    obtain ⟨rfl, _⟩ := take_txt_inv h1
    obtain ⟨rfl, _⟩ := take_txt_inv h2
    obtain ⟨rfl, rfl⟩ := pAtts_inv h3
    refine ⟨?_, rfl⟩
    rw [attL, kb_bk, kb_bk]; simp only [List.append_assoc]
theorem pNd_inv {pk : List UInt8 → Option (List Nd × List UInt8)} (hpk : ∀ b l r, pk b = some (l, r) → b = bytesL l ++ r) {b r : List UInt8} {n : Nd} (h : pNd pk b = some (n, r)) : b = ndL n ++ r := by
  unfold pNd at h
  split at h
  · cases h
  rename_i k r0 h0
  obtain ⟨rfl, _⟩ := take_num_inv h0
  split at h
  · cases h
  rename_i hk3
  split at h
  · rename_i hk
    split at h
    · cases h
    rename_i t z h1
    injection h with h
    injection h with e1 e2
    subst e1; subst e2
    obtain ⟨rfl, _⟩ := take_txt_inv h1
    have hl : (((k : Nat) : Int) == 2 || ((k : Nat) : Int) == 3) = true := by
      rcases hk with rfl | rfl <;> rfl
    rw [ndL, if_pos hl, kb_bk, Int.toNat_natCast, List.append_assoc]
  · rename_i hk
    split at h
    · cases h
    rename_i s r1 h1
    split at h
    · cases h
    rename_i m r2 h2
    split at h
    · cases h
    rename_i c r3 h3
    split at h
    · cases h
    split at h
    · cases h
    rename_i a r4 h4
    split at h
    · cases h
    rename_i l z h5
    injection h with h
    injection h with e1 e2
    subst e1; subst e2
    obtain ⟨rfl, _⟩ := take_num_inv h1
    obtain ⟨rfl, _⟩ := take_txt_inv h2
    obtain ⟨rfl, _⟩ := take_num_inv h3
    obtain ⟨rfl, rfl⟩ := pAtts_inv h4
    have h5 := hpk _ _ _ h5
    subst h5
    have hl : ¬ (((k : Nat) : Int) == 2 || ((k : Nat) : Int) == 3) = true := by
      simp only [Bool.or_eq_true, beq_iff_eq]
      omega
    rw [ndL, if_neg hl, kb_bk, Int.toNat_natCast, Int.toNat_natCast]
    unfold bytesL
    simp only [List.append_assoc]
theorem pMany_inv {f : List UInt8 → Option (Nd × List UInt8)} (hf : ∀ b n r, f b = some (n, r) → b = ndL n ++ r) : ∀ {c : Nat} {b r : List UInt8} {l : List Nd}, pMany f c b = some (l, r) → b = ndsL l ++ r ∧ l.length = c
  | 0, b, r, l, h => by
    rw [pMany] at h
    injection h with h
    injection h with e1 e2
    subst e1; subst e2
    exact ⟨rfl, rfl⟩
  | c + 1, b, r, l, h => by
    rw [pMany] at h
    split at h
    · cases h
    rename_i x r1 h1
    split at h
    · cases h
    rename_i l' z h2
    injection h with h
    injection h with e1 e2
    subst e1; subst e2
    have h1 := hf _ _ _ h1
    subst h1
    obtain ⟨rfl, rfl⟩ := pMany_inv hf h2
    exact ⟨by rw [ndsL, List.append_assoc], rfl⟩
theorem pNds_inv : ∀ (d : Nat) (b : List UInt8) (l : List Nd) (r : List UInt8), pNds d b = some (l, r) → b = bytesL l ++ r
  | 0, _, _, _, h => by cases h
  | d + 1, b, l, r, h => by
    rw [pNds] at h
    split at h
    · cases h
    rename_i c t h1
    obtain ⟨rfl, _⟩ := take_num_inv h1
    split at h
    · cases h
    obtain ⟨rfl, rfl⟩ := pMany_inv (fun b n r hb => pNd_inv (pNds_inv d) hb) h
    unfold bytesL
    rw [List.append_assoc]
def fitS (fk : List Nd → Prop) (n : Nd) : Prop := (∃ j : Nat, n.kind = j ∧ j ≤ 3) ∧ (if leafB n = true then (n.space = 0 ∧ n.name = bk [] ∧ n.attrs = [] ∧ n.kids = [] ∧ n.text.size ≤ 65536)
      else ((∃ j : Nat, n.space = j ∧ j ≤ 2) ∧ n.text = bk [] ∧ n.name.size ≤ 65536 ∧ n.attrs.length ≤ 12 ∧ (∀ x ∈ n.attrs, x.name.size ≤ 65536 ∧ x.value.size ≤ 65536) ∧ n.kids.length ≤ 300 ∧ fk n.kids))
def fitN : Nat → Nd → Prop
  | 0, n => fitS (fun _ => False) n
  | d + 1, n => fitS (fun c => ∀ x ∈ c, fitN d x) n
def kidsOK : Nat → List Nd → Prop
  | 0, _ => False
  | d + 1, c => ∀ x ∈ c, fitN d x
theorem fitN_eq (d : Nat) (n : Nd) : fitN d n = fitS (kidsOK d) n := by cases d <;> rfl
theorem pAtts_bytes : ∀ {l : List At}, (∀ x ∈ l, x.name.size ≤ 65536 ∧ x.value.size ≤ 65536) → ∀ r, pAtts l.length (attL l ++ r) = some (l, r)
  | [], _, r => rfl
  | a :: l, h, r => by
    obtain ⟨h1, h2⟩ := h a (.head _)
    rw [List.length_cons, pAtts, attL, List.append_assoc, List.append_assoc, take_txt (by rw [kb_size]; exact h1)]
    simp only
    rw [take_txt (by rw [kb_size]; exact h2)]
    simp only
    rw [pAtts_bytes fun x hx => h x (.tail _ hx)]
    simp only [bk_kb]
theorem pNd_bytes {d : Nat} {pk : List UInt8 → Option (List Nd × List UInt8)} {n : Nd} (h : fitN d n) (hpk : leafB n = false → ∀ r, pk (bytesL n.kids ++ r) = some (n.kids, r)) (r : List UInt8) : pNd pk (ndL n ++ r) = some (n, r) := by
  obtain ⟨k, s, m, a, t, c⟩ := n
  rw [fitN_eq] at h
  obtain ⟨⟨j, hj0, hj⟩, h⟩ := h
  have hj0 : k = j := hj0
  subst hj0
  rw [ndL, Int.toNat_natCast, List.append_assoc]
  unfold pNd
  rw [take_num (by omega)]
  simp only
  rw [if_neg (by omega)]
  by_cases hk : j = 2 ∨ j = 3
  · have hl : (((j : Nat) : Int) == 2 || ((j : Nat) : Int) == 3) = true := by rcases hk with rfl | rfl <;> rfl
    rw [if_pos (show leafB ⟨(j : Int), s, m, a, t, c⟩ = true from hl)] at h
    rw [if_pos hl]
    obtain ⟨h1, h2, h3, h4, ht⟩ := h
    dsimp only at h1 h2 h3 h4 ht
    subst h1 h2 h3 h4
    rw [if_pos hk, take_txt (by rw [kb_size]; exact ht)]
    simp only [bk_kb]
  · have hl : ¬ (((j : Nat) : Int) == 2 || ((j : Nat) : Int) == 3) = true := by simp only [Bool.or_eq_true, beq_iff_eq]; omega
    rw [if_neg (show ¬ leafB ⟨(j : Int), s, m, a, t, c⟩ = true from hl)] at h
    rw [if_neg hl]
    obtain ⟨⟨i, h1, hi⟩, h2, hm, ha, hat, hc, _⟩ := h
    dsimp only at h1 h2 hm ha hat hc
    subst h1 h2
    have hpk : ∀ r, pk (numL c.length ++ ndsL c ++ r) = some (c, r) := hpk (by unfold leafB; simpa using hl)
    rw [if_neg hk, Int.toNat_natCast]
    simp only [List.append_assoc]
    rw [take_num (by omega)]
    simp only
    rw [take_txt (by rw [kb_size]; exact hm)]
    simp only
    rw [take_num (by omega)]
    simp only
    rw [if_neg (by omega), pAtts_bytes hat]
    simp only
    have := hpk r
    rw [List.append_assoc] at this
    rw [this]
    simp only [bk_kb]
theorem pMany_bytes {f : List UInt8 → Option (Nd × List UInt8)} : ∀ {l : List Nd}, (∀ n ∈ l, ∀ r, f (ndL n ++ r) = some (n, r)) → ∀ r, pMany f l.length (ndsL l ++ r) = some (l, r)
  | [], _, r => rfl
  | n :: l, h, r => by
    rw [List.length_cons, pMany, ndsL, List.append_assoc, h n (.head _)]
    simp only
    rw [pMany_bytes fun x hx => h x (.tail _ hx)]
theorem fitN_kids {d : Nat} {n : Nd} (h : fitN d n) (hl : leafB n = false) : n.kids.length ≤ 300 ∧ ∃ e, d = e + 1 ∧ ∀ x ∈ n.kids, fitN e x := by
  rw [fitN_eq] at h
  obtain ⟨_, h⟩ := h
  rw [if_neg (by rw [hl]; decide)] at h
  obtain ⟨_, _, _, _, _, hc, hd⟩ := h
  refine ⟨hc, ?_⟩
  cases d with
  | zero => exact hd.elim
  | succ e => exact ⟨e, rfl, hd⟩
theorem pNds_bytes : ∀ (d : Nat) (l : List Nd), l.length ≤ 300 → (∀ x ∈ l, fitN d x) → ∀ r, pNds (d + 1) (bytesL l ++ r) = some (l, r)
  | d, l, hl, h, r => by
    unfold bytesL
    rw [pNds, List.append_assoc, take_num (by omega)]
    simp only
    rw [if_neg (by omega)]
    refine pMany_bytes (fun n hn r => ?_) r
    refine pNd_bytes (h n hn) (fun hlf r => ?_) r
    obtain ⟨h1, e, rfl, h2⟩ := fitN_kids (h n hn) hlf
    exact pNds_bytes e n.kids h1 h2 r
end Go.Proofs.YtnhipiedjekkpaaGreatDoor.AXP
end
section
namespace Go.Proofs.YtnhipiedjekkpaaGreatDoor.AX
open Go
end Go.Proofs.YtnhipiedjekkpaaGreatDoor.AX
end
section
namespace Go.Proofs.YtnhipiedjekkpaaGreatDoor.AX
open Go
theorem rd_nd {a : List Nd} {i : Nat} (h : i < a.length) : rd .node a (i : Int) = a[i] := by
  have := rd_eq (t := .node) (xs := a) (i := (i : Int)) (by rw [Int.toNat_natCast]; exact h)
  exact this.trans (by rfl)
theorem rowOf_le {t : Ty} {x : AV} {d : List (den t)} (h : rowOf t x = some d) : AVle x (.row t d) := Pm.le (p := .row t) h
theorem rd_at {a : List At} {i : Nat} (h : i < a.length) : rd .attr a (i : Int) = a[i] := rd_get (t := .attr) h
theorem not_lt_self {n : Nat} {P : Prop} (h : decide ((n : Int) < (n : Int)) = true) : P := by simp at h
theorem lt_of {i n : Nat} {P : Prop} (h : decide ((i : Int) < (n : Int)) = false) (hi : i < n) : P := by simp at h; omega
theorem take_snoc {α : Type} {s : List α} {i : Nat} (h : i < s.length) : s.take i ++ [s[i]] = s.take (i + 1) := List.take_append_getElem h
theorem rounds_rec {cx : Cx} {L : Loops} {n b : Nat} {c : Code} {keep left : List (Tmp × Want)} {K : Ex → List AV → List Blk → Prop} {σ : Type} (st : σ → List AV) (bl : σ → List Blk) (P : σ → Prop) (μ : σ → Nat)
    (hstep : ∀ s, P s → ∀ R : List AV → List Blk → Prop, (∀ s', P s' → μ s' < μ s → R (st s') (bl s')) → bodyA cx L n b c keep left (rk K R) (st s) (bl s)) : ∀ (k : Nat) (s : σ), μ s < k → P s → roundsA cx L n b c keep left K k (st s) (bl s)
  | 0, s, h, _ => absurd h (Nat.not_lt_zero _)
  | k + 1, s, h, hp => hstep s hp (roundsA cx L n b c keep left K k) fun s' hp' hm => rounds_rec st bl P μ hstep k s' (by omega) hp'
theorem sum_rec {cx : Cx} {L : Loops} {n b : Nat} {c : Code} {keep left : List (Tmp × Want)} {K : Ex → List AV → List Blk → Prop} {σ : Type} (st : σ → List AV) (bl : σ → List Blk) (P : σ → Prop) (μ : σ → Nat)
    (hstep : ∀ s, P s → ∀ R : List AV → List Blk → Prop, (∀ s', P s' → μ s' < μ s → R (st s') (bl s')) → bodyA cx L n b c keep left (rk K R) (st s) (bl s)) (s : σ) (h : P s) : ∃ m, roundsA cx L n b c keep left K m (st s) (bl s) :=
  ⟨μ s + 1, rounds_rec st bl P μ hstep _ s (Nat.lt_succ_self _) h⟩
end Go.Proofs.YtnhipiedjekkpaaGreatDoor.AX
end
section
namespace Go.Proofs.YtnhipiedjekkpaaGreatDoor.AXP
open Go Go.Proofs.YtnhipiedjekkpaaGreatDoor.AX
def numS (n : Int) : ByteArray := if 0 ≤ n ∧ n ≤ 1099511627776 then bk (numL n.toNat) else ⟨#[]⟩
def numE (n : Int) : Int := if 0 ≤ n ∧ n ≤ 1099511627776 then 0 else 1
def txtQ (s : ByteArray) : ByteArray := if s.size ≤ 65536 then bk (txtL (kb s)) else ⟨#[]⟩
def txtE (s : ByteArray) : Int := if s.size ≤ 65536 then 0 else 2
def tkN (b : ByteArray) : Int := match takeN (kb b) with | some (n, _) => n | none => 0
def tkR (b : ByteArray) : ByteArray := match takeN (kb b) with | some (_, r) => bk r | none => ⟨#[]⟩
def tkE (b : ByteArray) : Int := match takeN (kb b) with | some _ => 0 | none => 4
def ttS (b : ByteArray) : ByteArray := match takeT (kb b) with | some (n, _) => bk n | none => ⟨#[]⟩
def ttR (b : ByteArray) : ByteArray := match takeT (kb b) with | some (_, r) => bk r | none => ⟨#[]⟩
def ttE (b : ByteArray) : Int := match takeT (kb b) with | some _ => 0 | none => 4
def dOK (d : ByteArray) : Bool := decide ((kb d).head? ≠ some 0)
end Go.Proofs.YtnhipiedjekkpaaGreatDoor.AXP
namespace Go.Proofs.YtnhipiedjekkpaaGreatDoor.AX
open Go AXP
def conQDLt (k : Nat) : Con := conP [.int] fun (n : Int) => { pre := some (0 ≤ n ∧ n ≤ 1099511627776 ∧ n.toNat < k), res := .str (bk (b256 n.toNat)) }
noncomputable def cxQD (k : Nat) : Cx := cxT (tabLook [(78, conQDLt k)])
def conQD : Con := conP [.int] fun (n : Int) => { pre := some (0 ≤ n ∧ n ≤ 1099511627776), res := .str (bk (b256 n.toNat)) }
noncomputable def cxNumQ : Cx := cxT (tabLook [(78, conQD)])
def conNumQ : Con := conP [.int] fun (n : Int) => { res := .tup [.str (numS n), .int .i64 (numE n)] }
noncomputable def cxJnQ : Cx := cxT (tabLook [(43, conNumQ), (21, conWrite), (24, conString)])
def lsJnQ : LS where
  keep := [(4, .as), (9, .as), (10, .as), (11, .as)]
  left := [(4, .as), (2, .as), (3, .as)]
  sum := fun vs bs K => match vs, bs with
    | [.ptr 0 0, .row .str [s], .int .i64 m, .int .i64 i], [.bld t] => Rq (m = 1 ∧ i = 0 ∧ t.size = 0) (Br (decide (s.size ≤ 65536)) (K (.exit 0) [.ptr 0 0, .any, .any] [.bld (t ++ (numS s.size ++ s))]) (K .ret [.ptr 0 0, .str ⟨#[]⟩, .int .i64 2] [.bld t]))
    | _, _ => False
def conJnQ : Con := conP [.row .str] fun (l : List ByteArray) => { pre := some (∃ s, l = [s]), res := .tup [.str (txtQ (l.getD 0 ⟨#[]⟩)), .int .i64 (txtE (l.getD 0 ⟨#[]⟩))] }
noncomputable def cxTxQ : Cx := cxT (tabLook [(105, conJnQ)])
def conTxQ : Con := conP [.str] fun (s : ByteArray) => { res := .tup [.str (txtQ s), .int .i64 (txtE s)] }
def lsTkN : LS where
  keep := [(5, .as), (6, .as), (7, .as), (39, .as), (40, .as)]
  left := [(6, .as), (7, .as), (2, .as), (3, .as), (4, .as)]
  sum := fun vs bs K => match vs, bs with
    | [.str d, .str r, .int .i64 n, .int .i64 m, .int .i64 i], [] => Rq (n = 0 ∧ m = d.size ∧ i = 0 ∧ d.size ≤ 6) (Br (dOK d) (K (.exit 0) [.str r, .int .i64 (v256 (kb d)), .any, .any, .any] []) (K .ret [.str r, .int .i64 0, .int .i64 0, .str ⟨#[]⟩, .int .i64 4] []))
    | _, _ => False
noncomputable def cxTkN : Cx := cxT (tabLook [])
def conTkN : Con := conP [.str] fun (b : ByteArray) => { res := .tup [.int .i64 (tkN b), .str (tkR b), .int .i64 (tkE b)] }
noncomputable def cxTkT : Cx := cxT (tabLook [(68, conTkN)])
def conTkT : Con := conP [.str] fun (b : ByteArray) => { res := .tup [.str (ttS b), .str (ttR b), .int .i64 (ttE b)] }
noncomputable def cxTn : Cx := cxT (tabLook [(43, conNumQ), (87, conTxQ)])
def conTn : Con := conP [.int] fun (n : Int) => { res := .str (numS n) }
def conTt : Con := conP [.str] fun (s : ByteArray) => { res := .str (txtQ s) }
end Go.Proofs.YtnhipiedjekkpaaGreatDoor.AX
end
section
namespace Go.Proofs.YtnhipiedjekkpaaGreatDoor.AX
open Go AXP
set_option maxRecDepth 100000
theorem vcQDF (k : Nat) (n : Int) (Q : List AV → List Blk → List Blk → Prop) : (funA (cxQD k) (LL Tryz.f78 []) Tryz.f78 [.int .i64 n] [] [] Q) = (
Br (n == (0 : Int)) (Q [AV.str (ByteArray.mk (Array.mk []))] [] [])
 (Rq ((0 : Int) ≤ (8 : Int))
 (Rq
 ((0 : Int) ≤ n.fdiv ((2 : Int) ^ min (Int.toNat (8 : Int)) IntKind.i64.bits) ∧
 n.fdiv ((2 : Int) ^ min (Int.toNat (8 : Int)) IntKind.i64.bits) ≤ (1099511627776 : Int) ∧
 (n.fdiv ((2 : Int) ^ min (Int.toNat (8 : Int)) IntKind.i64.bits)).toNat < k)
 (Rq ([IntKind.u8.wrap n].length ≤ maxSl)
 (Rq
 ((bk (b256 (n.fdiv ((2 : Int) ^ min (Int.toNat (8 : Int)) IntKind.i64.bits)).toNat)).size +
 (strOf [IntKind.u8.wrap n]).size ≤
 maxSl)
 (Q
 [AV.str
 (bk (b256 (n.fdiv ((2 : Int) ^ min (Int.toNat (8 : Int)) IntKind.i64.bits)).toNat) ++
 strOf [IntKind.u8.wrap n])]
 [] [])))))) := by kernel_rfl
theorem vcNumQF (n : Int) (Q : List AV → List Blk → List Blk → Prop) : (funA cxNumQ (LL Tryz.f43 []) Tryz.f43 [.int .i64 n] [] [] Q) = (
Br (decide (n < (0 : Int))) (Q [AV.str (ByteArray.mk (Array.mk [])), AV.int IntKind.i64 (1 : Int)] [] [])
 (Br (decide (n > (1099511627776 : Int))) (Q [AV.str (ByteArray.mk (Array.mk [])), AV.int IntKind.i64 (1 : Int)] [] [])
 (Rq ((0 : Int) ≤ n ∧ n ≤ (1099511627776 : Int))
 (Rq ([IntKind.u8.wrap (↑(bk (b256 n.toNat)).size : Int)].length ≤ maxSl)
 (Rq ((strOf [IntKind.u8.wrap (↑(bk (b256 n.toNat)).size : Int)]).size + (bk (b256 n.toNat)).size ≤ maxSl)
 (Gv ((bk (b256 n.toNat)).size ≤ maxSl)
 (Q
 [AV.str (strOf [IntKind.u8.wrap (↑(bk (b256 n.toNat)).size : Int)] ++ bk (b256 n.toNat)),
 AV.int IntKind.i64 (0 : Int)]
 [] []))))))) := by kernel_rfl
theorem vcJnQB (t s : ByteArray) (m i : Int) (K : Ex → List AV → List Blk → Prop) : (bodyA cxJnQ (LL Tryz.f105 [lsJnQ]) Tryz.f105.ntmps (loopAt Tryz.f105 0).1 (loopAt Tryz.f105 0).2 lsJnQ.keep lsJnQ.left K [.ptr 0 0, .row .str [s], .int .i64 m, .int .i64 i] [.bld t]) = (
Br (decide (i < m))
 (Rq ((0 : Int) ≤ i ∧ i < (↑[s].length : Int))
 (Gv (ByteArray.size (rd Ty.str [s] i) ≤ maxSl)
 (Br (decide ((↑(ByteArray.size (rd Ty.str [s] i)) : Int) > (65536 : Int)))
 (K Ex.ret [AV.ptr (0 : Nat) (0 : Nat), AV.str (ByteArray.mk (Array.mk [])), AV.int IntKind.i64 (2 : Int)]
 [Blk.bld t])
 (Gv (ByteArray.size (rd Ty.str [s] i) ≤ maxSl)
 (Rq ((numS (↑(ByteArray.size (rd Ty.str [s] i)) : Int)).size + ByteArray.size (rd Ty.str [s] i) ≤ maxSl)
 (Rq (t.size + (numS (↑(ByteArray.size (rd Ty.str [s] i)) : Int) ++ rd Ty.str [s] i).size ≤ maxSl)
 (K Ex.norm
 [AV.ptr (0 : Nat) (0 : Nat), AV.row Ty.str [s], AV.int IntKind.i64 m,
 AV.int IntKind.i64 (IntKind.i64.wrap (i + (1 : Int)))]
 [Blk.bld (t ++ (numS (↑(ByteArray.size (rd Ty.str [s] i)) : Int) ++ rd Ty.str [s] i))])))))))
 (K (Ex.exit (0 : Nat)) [AV.ptr (0 : Nat) (0 : Nat), AV.any, AV.any] [Blk.bld t])) := by kernel_rfl
theorem vcJnQF (s : ByteArray) (Q : List AV → List Blk → List Blk → Prop) : (funA cxJnQ (LL Tryz.f105 [lsJnQ]) Tryz.f105 [.row .str [s]] [] [] Q) = (
Gv ([s].length ≤ maxSl)
 (Rq ((↑[s].length : Int) = (1 : Int) ∧ (0 : Int) = (0 : Int) ∧ (ByteArray.mk (Array.mk [])).size = (0 : Nat))
 (Br (decide (s.size ≤ (65536 : Nat)))
 (Rq ((ByteArray.mk (Array.mk []) ++ (numS (↑s.size : Int) ++ s)).size ≤ maxSl)
 (Q [AV.str (ByteArray.mk (Array.mk []) ++ (numS (↑s.size : Int) ++ s)), AV.int IntKind.i64 (0 : Int)] [] []))
 (Q [AV.str (ByteArray.mk (Array.mk [])), AV.int IntKind.i64 (2 : Int)] [] [])))) := by kernel_rfl
theorem vcTxQF (s : ByteArray) (Q : List AV → List Blk → List Blk → Prop) : (funA cxTxQ (LL Tryz.f87 []) Tryz.f87 [.str s] [] [] Q) = (
Rq (∃ s_1, [s] = [s_1])
 (Q
 [AV.str (txtQ ([s].getD (0 : Nat) (ByteArray.mk (Array.mk [])))),
 AV.int IntKind.i64 (txtE ([s].getD (0 : Nat) (ByteArray.mk (Array.mk []))))]
 [] [])) := by kernel_rfl
theorem vcTkNB (d r : ByteArray) (n m i : Int) (K : Ex → List AV → List Blk → Prop) : (bodyA cxTkN (LL Tryz.f68 [lsTkN]) Tryz.f68.ntmps (loopAt Tryz.f68 0).1 (loopAt Tryz.f68 0).2 lsTkN.keep lsTkN.left K [.str d, .str r, .int .i64 n, .int .i64 m, .int .i64 i] []) = (
Br (decide (i < m))
 (Br (i == (0 : Int))
 (Rq ((0 : Int) ≤ i ∧ i < (↑d.size : Int))
 (Br ((↑(d.get! i.toNat).toNat : Int) == (0 : Int))
 (K Ex.ret
 [AV.str r, AV.int IntKind.i64 n, AV.int IntKind.i64 (0 : Int), AV.str (ByteArray.mk (Array.mk [])),
 AV.int IntKind.i64 (4 : Int)]
 [])
 (Rq ((0 : Int) ≤ (8 : Int))
 (Rq ((0 : Int) ≤ i ∧ i < (↑d.size : Int))
 (K Ex.norm
 [AV.str d, AV.str r,
 AV.int IntKind.i64
 (IntKind.i64.wrap
 (↑(BitVec.ofInt IntKind.i64.bits
 (IntKind.i64.wrap (n * (2 : Int) ^ min (Int.toNat (8 : Int)) IntKind.i64.bits)) |||
 BitVec.ofInt IntKind.i64.bits (IntKind.i64.wrap (↑(d.get! i.toNat).toNat : Int))).toNat :
 Int)),
 AV.int IntKind.i64 m, AV.int IntKind.i64 (IntKind.i64.wrap (i + (1 : Int)))]
 [])))))
 (Rq ((0 : Int) ≤ (8 : Int))
 (Rq ((0 : Int) ≤ i ∧ i < (↑d.size : Int))
 (K Ex.norm
 [AV.str d, AV.str r,
 AV.int IntKind.i64
 (IntKind.i64.wrap
 (↑(BitVec.ofInt IntKind.i64.bits
 (IntKind.i64.wrap (n * (2 : Int) ^ min (Int.toNat (8 : Int)) IntKind.i64.bits)) |||
 BitVec.ofInt IntKind.i64.bits (IntKind.i64.wrap (↑(d.get! i.toNat).toNat : Int))).toNat :
 Int)),
 AV.int IntKind.i64 m, AV.int IntKind.i64 (IntKind.i64.wrap (i + (1 : Int)))]
 []))))
 (K (Ex.exit (0 : Nat)) [AV.str r, AV.int IntKind.i64 n, AV.any, AV.any, AV.any] [])) := by kernel_rfl
theorem vcTkNF (b : ByteArray) (Q : List AV → List Blk → List Blk → Prop) : (funA cxTkN (LL Tryz.f68 [lsTkN]) Tryz.f68 [.str b] [] [] Q) = (
Br (eqS b (ByteArray.mk (Array.mk [])))
 (Q [AV.int IntKind.i64 (0 : Int), AV.str (ByteArray.mk (Array.mk [])), AV.int IntKind.i64 (4 : Int)] [] [])
 (Rq ((0 : Int) ≤ (0 : Int) ∧ (0 : Int) < (↑b.size : Int))
 (Br (decide (IntKind.i64.wrap (↑(b.get! (Int.toNat (0 : Int))).toNat : Int) > (6 : Int)))
 (Q [AV.int IntKind.i64 (0 : Int), AV.str (ByteArray.mk (Array.mk [])), AV.int IntKind.i64 (4 : Int)] [] [])
 (Rq ((0 : Int) ≤ (0 : Int) ∧ (0 : Int) < (↑b.size : Int))
 (Gv (b.size ≤ maxSl)
 (Br
 (decide
 (IntKind.i64.wrap ((↑b.size : Int) - (1 : Int)) <
 IntKind.i64.wrap (↑(b.get! (Int.toNat (0 : Int))).toNat : Int)))
 (Q [AV.int IntKind.i64 (0 : Int), AV.str (ByteArray.mk (Array.mk [])), AV.int IntKind.i64 (4 : Int)] [] [])
 (Rq ((0 : Int) ≤ (0 : Int) ∧ (0 : Int) < (↑b.size : Int))
 (Rq
 ((0 : Int) ≤ (1 : Int) ∧
 (1 : Int) ≤
 IntKind.i64.wrap ((1 : Int) + IntKind.i64.wrap (↑(b.get! (Int.toNat (0 : Int))).toNat : Int)) ∧
 IntKind.i64.wrap ((1 : Int) + IntKind.i64.wrap (↑(b.get! (Int.toNat (0 : Int))).toNat : Int)) ≤
 (↑b.size : Int))
 (Rq ((0 : Int) ≤ (0 : Int) ∧ (0 : Int) < (↑b.size : Int))
 (Rq
 ((0 : Int) ≤
 IntKind.i64.wrap ((1 : Int) + IntKind.i64.wrap (↑(b.get! (Int.toNat (0 : Int))).toNat : Int)) ∧
 IntKind.i64.wrap ((1 : Int) + IntKind.i64.wrap (↑(b.get! (Int.toNat (0 : Int))).toNat : Int)) ≤
 (↑b.size : Int) ∧
 (↑b.size : Int) ≤ (↑b.size : Int))
 (Gv
 ((b.extract (Int.toNat (1 : Int))
 (IntKind.i64.wrap
 ((1 : Int) +
 IntKind.i64.wrap (↑(b.get! (Int.toNat (0 : Int))).toNat : Int))).toNat).size ≤
 maxSl)
 (Rq
 ((0 : Int) = (0 : Int) ∧
 (↑(b.extract (Int.toNat (1 : Int))
 (IntKind.i64.wrap
 ((1 : Int) +
 IntKind.i64.wrap
 (↑(b.get! (Int.toNat (0 : Int))).toNat : Int))).toNat).size :
 Int) =
 (↑(b.extract (Int.toNat (1 : Int))
 (IntKind.i64.wrap
 ((1 : Int) +
 IntKind.i64.wrap
 (↑(b.get! (Int.toNat (0 : Int))).toNat : Int))).toNat).size :
 Int) ∧
 (0 : Int) = (0 : Int) ∧
 (b.extract (Int.toNat (1 : Int))
 (IntKind.i64.wrap
 ((1 : Int) +
 IntKind.i64.wrap (↑(b.get! (Int.toNat (0 : Int))).toNat : Int))).toNat).size ≤
 (6 : Nat))
 (Br
 (dOK
 (b.extract (Int.toNat (1 : Int))
 (IntKind.i64.wrap
 ((1 : Int) + IntKind.i64.wrap (↑(b.get! (Int.toNat (0 : Int))).toNat : Int))).toNat))
 (Br
 (decide
 ((↑(v256
 (kb
 (b.extract (Int.toNat (1 : Int))
 (IntKind.i64.wrap
 ((1 : Int) +
 IntKind.i64.wrap
 (↑(b.get! (Int.toNat (0 : Int))).toNat : Int))).toNat))) :
 Int) >
 (1099511627776 : Int)))
 (Q
 [AV.int IntKind.i64 (0 : Int), AV.str (ByteArray.mk (Array.mk [])),
 AV.int IntKind.i64 (4 : Int)]
 [] [])
 (Q
 [AV.int IntKind.i64
 (↑(v256
 (kb
 (b.extract (Int.toNat (1 : Int))
 (IntKind.i64.wrap
 ((1 : Int) +
 IntKind.i64.wrap
 (↑(b.get! (Int.toNat (0 : Int))).toNat : Int))).toNat))) :
 Int),
 AV.str
 (b.extract
 (IntKind.i64.wrap
 ((1 : Int) +
 IntKind.i64.wrap (↑(b.get! (Int.toNat (0 : Int))).toNat : Int))).toNat
 (↑b.size : Int).toNat),
 AV.int IntKind.i64 (0 : Int)]
 [] []))
 (Q
 [AV.int IntKind.i64 (0 : Int), AV.str (ByteArray.mk (Array.mk [])),
 AV.int IntKind.i64 (4 : Int)]
 [] [])))))))))))))) := by kernel_rfl
theorem vcTkTF (b : ByteArray) (Q : List AV → List Blk → List Blk → Prop) : (funA cxTkT (LL Tryz.f106 []) Tryz.f106 [.str b] [] [] Q) = (
Br (tkE b != (0 : Int))
 (Q [AV.str (ByteArray.mk (Array.mk [])), AV.str (ByteArray.mk (Array.mk [])), AV.int IntKind.i64 (4 : Int)] [] [])
 (Br (decide (tkN b > (65536 : Int)))
 (Q [AV.str (ByteArray.mk (Array.mk [])), AV.str (ByteArray.mk (Array.mk [])), AV.int IntKind.i64 (4 : Int)] [] [])
 (Gv ((tkR b).size ≤ maxSl)
 (Br (decide (tkN b > (↑(tkR b).size : Int)))
 (Q [AV.str (ByteArray.mk (Array.mk [])), AV.str (ByteArray.mk (Array.mk [])), AV.int IntKind.i64 (4 : Int)] []
 [])
 (Rq ((0 : Int) ≤ (0 : Int) ∧ (0 : Int) ≤ tkN b ∧ tkN b ≤ (↑(tkR b).size : Int))
 (Rq ((0 : Int) ≤ tkN b ∧ tkN b ≤ (↑(tkR b).size : Int) ∧ (↑(tkR b).size : Int) ≤ (↑(tkR b).size : Int))
 (Q
 [AV.str ((tkR b).extract (Int.toNat (0 : Int)) (tkN b).toNat),
 AV.str ((tkR b).extract (tkN b).toNat (↑(tkR b).size : Int).toNat), AV.int IntKind.i64 (0 : Int)]
 [] []))))))) := by kernel_rfl
theorem vcTnF (n : Int) (Q : List AV → List Blk → List Blk → Prop) : (funA cxTn (LL Tryz.f132 []) Tryz.f132 [.int .i64 n] [] [] Q) = (
Q [AV.str (numS n)] [] []) := by kernel_rfl
theorem vcTtF (s : ByteArray) (Q : List AV → List Blk → List Blk → Prop) : (funA cxTn (LL Tryz.f133 []) Tryz.f133 [.str s] [] [] Q) = (
Q [AV.str (txtQ s)] [] []) := by kernel_rfl
end Go.Proofs.YtnhipiedjekkpaaGreatDoor.AX
end
section
namespace Go.Proofs.YtnhipiedjekkpaaGreatDoor.AXP
open Go Go.Proofs.YtnhipiedjekkpaaGreatDoor.AX
theorem wraps_i64 (n : Int) (h0 : 0 ≤ n) (h1 : n < 2 ^ 63) : IntKind.i64.wrap n = n := by rw [IntKind.wrap_i64]; omega
theorem i64_or6 {x y : Int} (hx0 : 0 ≤ x) (hx1 : x < 4294967296) (h0 : 0 ≤ y) (h1 : y < 64) : Go.bits .or .i64 (x * 64) y = x * 64 + y :=
  bits_join .i64 63 (by decide) wraps_i64 6 (x * 64) y (by omega) (by omega) (by omega) h0 h1 (by omega)
def bl (s : ByteArray) : List Int := s.data.toList.map fun b => (b.toNat : Int)
theorem bl_length (s : ByteArray) : (bl s).length = s.size := by unfold bl; rw [List.length_map, Array.length_toList]; rfl
theorem bl_at {s : ByteArray} {i : Nat} (h : i < s.size) : (bl s).getD i (-1) = ((s.get! i).toNat : Int) := by
  unfold bl
  have hi : i < s.data.toList.length := by rw [Array.length_toList]; exact h
  have h2 : i < s.data.size := h
  rw [List.getD_eq_getElem?_getD, List.getElem?_map, List.getElem?_eq_getElem hi]
  show ((s.data.toList[i].toNat : Nat) : Int) = _
  rw [Array.getElem_toList]
  show _ = (((s.data[i]!).toNat : Nat) : Int)
  rw [getElem!_pos s.data i h2]
theorem bl_extract (s : ByteArray) (a b : Nat) : bl (s.extract a b) = ((bl s).drop a).take (b - a) := by
  unfold bl
  rw [Lib.extract_data, List.map_take, List.map_drop]
theorem bl_tail (s : ByteArray) (a : Nat) : bl (s.extract a s.size) = (bl s).drop a := by
  rw [bl_extract, List.take_of_length_le (by rw [List.length_drop, bl_length]; exact Nat.le_refl _)]
def isC (c : Int) : Bool := decide (0 ≤ c) && decide (c ≤ 1114111) && !(decide (55296 ≤ c) && decide (c ≤ 57343))
theorem isC_iff {c : Int} : isC c = true ↔ 0 ≤ c ∧ c ≤ 1114111 ∧ (c < 55296 ∨ 57343 < c) := by
  simp [isC]; omega
def encB (c : Int) : List Int := if c < 128 then [c] else if c < 2048 then [192 + c / 64, 128 + c % 64] else if c < 65536 then [224 + c / 4096, 128 + c / 64 % 64, 128 + c % 64] else [240 + c / 262144, 128 + c / 4096 % 64, 128 + c / 64 % 64, 128 + c % 64]
def ct (x : Int) : Bool := decide (128 ≤ x) && decide (x ≤ 191)
theorem ct_iff {x : Int} : ct x = true ↔ 128 ≤ x ∧ x ≤ 191 := by simp [ct]
def uBad : Int × Int × Bool := (65533, 1, false)
def uDec (x0 x1 x2 x3 : Int) : Int × Int × Bool :=
  if x0 < 128 then (x0, 1, true)
  else if x0 < 192 then uBad
  else if x0 < 224 then (if ct x1 = true then (if 128 ≤ (x0 - 192) * 64 + x1 % 64 then ((x0 - 192) * 64 + x1 % 64, 2, true) else uBad) else uBad)
  else if x0 < 240 then (if ct x1 = true then (if ct x2 = true then (if isC (((x0 - 224) * 64 + x1 % 64) * 64 + x2 % 64) = true ∧ 2048 ≤ ((x0 - 224) * 64 + x1 % 64) * 64 + x2 % 64 then (((x0 - 224) * 64 + x1 % 64) * 64 + x2 % 64, 3, true) else uBad) else uBad) else uBad)
  else if x0 < 248 then (if ct x1 = true then (if ct x2 = true then (if ct x3 = true then (if isC ((((x0 - 240) * 64 + x1 % 64) * 64 + x2 % 64) * 64 + x3 % 64) = true ∧ 65536 ≤ (((x0 - 240) * 64 + x1 % 64) * 64 + x2 % 64) * 64 + x3 % 64 then ((((x0 - 240) * 64 + x1 % 64) * 64 + x2 % 64) * 64 + x3 % 64, 4, true) else uBad) else uBad) else uBad) else uBad)
  else uBad
def uDecL (l : List Int) : Int × Int × Bool := uDec (l.getD 0 (-1)) (l.getD 1 (-1)) (l.getD 2 (-1)) (l.getD 3 (-1))
def lng (b : Int) : Int := if b < 128 then 1 else if b < 192 then 0 else if b < 224 then 2 else if b < 240 then 3 else if b < 248 then 4 else 0
def least (n : Int) : Int := if n = 1 then 0 else if n = 2 then 128 else if n = 3 then 2048 else 65536
theorem getD_lt {l : List Int} {i : Nat} (h : l.length ≤ i) : l.getD i (-1) = -1 := by rw [List.getD_eq_getElem?_getD, List.getElem?_eq_none h]; rfl
theorem ct_m1 : ¬ ct (-1) = true := by decide
theorem encB_length (c : Int) : (encB c).length ≤ 4 ∧ 0 < (encB c).length := by
  unfold encB
  repeat' split
  all_goals simp
theorem encB_range {c : Int} (h : isC c = true) : ∀ x ∈ encB c, 0 ≤ x ∧ x ≤ 255 := by
  obtain ⟨h0, h1, _⟩ := isC_iff.1 h
  unfold encB
  repeat' split
  all_goals (intro x hx; simp only [List.mem_cons, List.not_mem_nil, or_false] at hx; omega)
theorem take1_iff {l : List Int} {a : Int} (ha : 0 ≤ a) : l.take 1 = [a] ↔ l.getD 0 (-1) = a := by
  rcases l with _ | ⟨x, l⟩ <;> simp <;> omega
theorem take2_iff {l : List Int} {a b : Int} (ha : 0 ≤ a) (hb : 0 ≤ b) : l.take 2 = [a, b] ↔ l.getD 0 (-1) = a ∧ l.getD 1 (-1) = b := by
  rcases l with _ | ⟨x, _ | ⟨y, l⟩⟩ <;> simp <;> omega
theorem take3_iff {l : List Int} {a b c : Int} (ha : 0 ≤ a) (hb : 0 ≤ b) (hc : 0 ≤ c) : l.take 3 = [a, b, c] ↔ l.getD 0 (-1) = a ∧ l.getD 1 (-1) = b ∧ l.getD 2 (-1) = c := by
  rcases l with _ | ⟨x, _ | ⟨y, _ | ⟨z, l⟩⟩⟩ <;> simp <;> omega
theorem take4_iff {l : List Int} {a b c d : Int} (ha : 0 ≤ a) (hb : 0 ≤ b) (hc : 0 ≤ c) (hd : 0 ≤ d) : l.take 4 = [a, b, c, d] ↔ l.getD 0 (-1) = a ∧ l.getD 1 (-1) = b ∧ l.getD 2 (-1) = c ∧ l.getD 3 (-1) = d := by
  rcases l with _ | ⟨x, _ | ⟨y, _ | ⟨z, _ | ⟨u, l⟩⟩⟩⟩ <;> simp <;> omega
def uSt (l : List Int) (c : Int) : Int × Int × Bool := if isC c = true ∧ l.take (encB c).length = encB c then (c, ((encB c).length : Int), true) else uBad
theorem uSt_1 {l : List Int} {c : Int} (h : isC c = true) (h1 : c < 128) : uSt l c = if l.getD 0 (-1) = c then (c, 1, true) else uBad := by
  have h0 := (isC_iff.1 h).1
  have e : encB c = [c] := by unfold encB; rw [if_pos h1]
  unfold uSt
  rw [e]
  by_cases q : l.getD 0 (-1) = c
  · rw [if_pos q, if_pos ⟨h, (take1_iff h0).2 q⟩]; rfl
  · rw [if_neg q, if_neg (fun z => q ((take1_iff h0).1 z.2))]
theorem uSt_2 {l : List Int} {c : Int} (h : isC c = true) (h0 : 128 ≤ c) (h1 : c < 2048) : uSt l c = if l.getD 0 (-1) = 192 + c / 64 ∧ l.getD 1 (-1) = 128 + c % 64 then (c, 2, true) else uBad := by
  have e : encB c = [192 + c / 64, 128 + c % 64] := by unfold encB; rw [if_neg (by omega), if_pos h1]
  have t := take2_iff (l := l) (a := 192 + c / 64) (b := 128 + c % 64) (by omega) (by omega)
  unfold uSt
  rw [e]
  by_cases q : l.getD 0 (-1) = 192 + c / 64 ∧ l.getD 1 (-1) = 128 + c % 64
  · rw [if_pos q, if_pos ⟨h, t.2 q⟩]; rfl
  · rw [if_neg q, if_neg (fun z => q (t.1 z.2))]
theorem uSt_3 {l : List Int} {c : Int} (h : isC c = true) (h0 : 2048 ≤ c) (h1 : c < 65536) : uSt l c = if l.getD 0 (-1) = 224 + c / 4096 ∧ l.getD 1 (-1) = 128 + c / 64 % 64 ∧ l.getD 2 (-1) = 128 + c % 64 then (c, 3, true) else uBad := by
  have e : encB c = [224 + c / 4096, 128 + c / 64 % 64, 128 + c % 64] := by unfold encB; rw [if_neg (by omega), if_neg (by omega), if_pos h1]
  have t := take3_iff (l := l) (a := 224 + c / 4096) (b := 128 + c / 64 % 64) (c := 128 + c % 64) (by omega) (by omega) (by omega)
  unfold uSt
  rw [e]
  by_cases q : l.getD 0 (-1) = 224 + c / 4096 ∧ l.getD 1 (-1) = 128 + c / 64 % 64 ∧ l.getD 2 (-1) = 128 + c % 64
  · rw [if_pos q, if_pos ⟨h, t.2 q⟩]; rfl
  · rw [if_neg q, if_neg (fun z => q (t.1 z.2))]
theorem uSt_4 {l : List Int} {c : Int} (h : isC c = true) (h0 : 65536 ≤ c) : uSt l c = if l.getD 0 (-1) = 240 + c / 262144 ∧ l.getD 1 (-1) = 128 + c / 4096 % 64 ∧ l.getD 2 (-1) = 128 + c / 64 % 64 ∧ l.getD 3 (-1) = 128 + c % 64 then (c, 4, true) else uBad := by
  have e : encB c = [240 + c / 262144, 128 + c / 4096 % 64, 128 + c / 64 % 64, 128 + c % 64] := by unfold encB; rw [if_neg (by omega), if_neg (by omega), if_neg (by omega)]
  have t := take4_iff (l := l) (a := 240 + c / 262144) (b := 128 + c / 4096 % 64) (c := 128 + c / 64 % 64) (d := 128 + c % 64) (by omega) (by omega) (by omega) (by omega)
  unfold uSt
  rw [e]
  by_cases q : l.getD 0 (-1) = 240 + c / 262144 ∧ l.getD 1 (-1) = 128 + c / 4096 % 64 ∧ l.getD 2 (-1) = 128 + c / 64 % 64 ∧ l.getD 3 (-1) = 128 + c % 64
  · rw [if_pos q, if_pos ⟨h, t.2 q⟩]; rfl
  · rw [if_neg q, if_neg (fun z => q (t.1 z.2))]
theorem uSt_no {l : List Int} {c : Int} (h : ¬ isC c = true) : uSt l c = uBad := by unfold uSt; rw [if_neg (fun z => h z.1)]
def cOf (x0 x1 x2 x3 : Int) : Int :=
  if x0 < 128 then x0 else if 192 ≤ x0 ∧ x0 < 224 ∧ ct x1 = true then 64 * (x0 - 192) + (x1 - 128)
  else if 224 ≤ x0 ∧ x0 < 240 ∧ ct x1 = true ∧ ct x2 = true then 4096 * (x0 - 224) + 64 * (x1 - 128) + (x2 - 128)
  else if 240 ≤ x0 ∧ x0 < 248 ∧ ct x1 = true ∧ ct x2 = true ∧ ct x3 = true then 262144 * (x0 - 240) + 4096 * (x1 - 128) + 64 * (x2 - 128) + (x3 - 128) else -1
theorem isC_m1 : ¬ isC (-1) = true := by decide
theorem uSt_cOf {l : List Int} (h0 : 0 ≤ l.getD 0 (-1)) : uSt l (cOf (l.getD 0 (-1)) (l.getD 1 (-1)) (l.getD 2 (-1)) (l.getD 3 (-1))) = uDecL l := by
  unfold uDecL
  generalize e0 : l.getD 0 (-1) = x0 at *
  generalize e1 : l.getD 1 (-1) = x1 at *
  generalize e2 : l.getD 2 (-1) = x2 at *
  generalize e3 : l.getD 3 (-1) = x3 at *
  unfold cOf uDec
  by_cases a1 : x0 < 128
  · rw [if_pos a1, if_pos a1, uSt_1 (isC_iff.2 (by omega)) a1, e0, if_pos rfl]
  rw [if_neg a1, if_neg a1]
  by_cases a2 : x0 < 192
  · rw [if_neg (by omega), if_neg (by omega), if_neg (by omega), if_pos a2, uSt_no isC_m1]
  rw [if_neg a2]
  by_cases a3 : x0 < 224
  · rw [if_pos a3]
    by_cases c1 : ct x1 = true
    · have c1' := ct_iff.1 c1
      rw [if_pos ⟨by omega, a3, c1⟩, if_pos c1]
      have hc : isC (64 * (x0 - 192) + (x1 - 128)) = true := isC_iff.2 (by omega)
      by_cases q : 128 ≤ (x0 - 192) * 64 + x1 % 64
      · rw [if_pos q, uSt_2 hc (by omega) (by omega), e0, e1, if_pos (by omega)]
        rw [show 64 * (x0 - 192) + (x1 - 128) = (x0 - 192) * 64 + x1 % 64 by omega]
      · rw [if_neg q, uSt_1 hc (by omega), e0, if_neg (by omega)]
    · rw [if_neg (fun z => c1 z.2.2), if_neg (by omega), if_neg (by omega), if_neg c1, uSt_no isC_m1]
  rw [if_neg a3, if_neg (by omega)]
  by_cases a4 : x0 < 240
  · rw [if_pos a4]
    by_cases c1 : ct x1 = true
    · have c1' := ct_iff.1 c1
      rw [if_pos c1]
      by_cases c2 : ct x2 = true
      · have c2' := ct_iff.1 c2
        rw [if_pos ⟨by omega, a4, c1, c2⟩, if_pos c2]
        rw [show 4096 * (x0 - 224) + 64 * (x1 - 128) + (x2 - 128) = ((x0 - 224) * 64 + x1 % 64) * 64 + x2 % 64 by omega]
        generalize hcc : ((x0 - 224) * 64 + x1 % 64) * 64 + x2 % 64 = c
        by_cases q : isC c = true
        · by_cases q2 : 2048 ≤ c
          · rw [if_pos ⟨q, q2⟩, uSt_3 q q2 (by omega), e0, e1, e2, if_pos (by omega)]
          · rw [if_neg (fun z => q2 z.2)]
            by_cases q3 : c < 128
            · rw [uSt_1 q q3, e0, if_neg (by omega)]
            · rw [uSt_2 q (by omega) (by omega), e0, e1, if_neg (by omega)]
        · rw [if_neg (fun z => q z.1), uSt_no q]
      · rw [if_neg (fun z => c2 z.2.2.2), if_neg (by omega), if_neg c2, uSt_no isC_m1]
    · rw [if_neg (fun z => c1 z.2.2.1), if_neg (by omega), if_neg c1, uSt_no isC_m1]
  rw [if_neg a4, if_neg (by omega)]
  by_cases a5 : x0 < 248
  · rw [if_pos a5]
    by_cases c1 : ct x1 = true
    · have c1' := ct_iff.1 c1
      rw [if_pos c1]
      by_cases c2 : ct x2 = true
      · have c2' := ct_iff.1 c2
        rw [if_pos c2]
        by_cases c3 : ct x3 = true
        · have c3' := ct_iff.1 c3
          rw [if_pos ⟨by omega, a5, c1, c2, c3⟩, if_pos c3]
          rw [show 262144 * (x0 - 240) + 4096 * (x1 - 128) + 64 * (x2 - 128) + (x3 - 128) = (((x0 - 240) * 64 + x1 % 64) * 64 + x2 % 64) * 64 + x3 % 64 by omega]
          generalize hcc : (((x0 - 240) * 64 + x1 % 64) * 64 + x2 % 64) * 64 + x3 % 64 = c
          by_cases q : isC c = true
          · by_cases q2 : 65536 ≤ c
            · rw [if_pos ⟨q, q2⟩, uSt_4 q q2, e0, e1, e2, e3, if_pos (by omega)]
            · rw [if_neg (fun z => q2 z.2)]
              by_cases q3 : c < 128
              · rw [uSt_1 q q3, e0, if_neg (by omega)]
              · by_cases q4 : c < 2048
                · rw [uSt_2 q (by omega) q4, e0, e1, if_neg (by omega)]
                · rw [uSt_3 q (by omega) (by omega), e0, e1, e2, if_neg (by omega)]
          · rw [if_neg (fun z => q z.1), uSt_no q]
        · rw [if_neg (fun z => c3 z.2.2.2.2), if_neg c3, uSt_no isC_m1]
      · rw [if_neg (fun z => c2 z.2.2.2.1), if_neg c2, uSt_no isC_m1]
    · rw [if_neg (fun z => c1 z.2.2.1), if_neg c1, uSt_no isC_m1]
  · rw [if_neg (by omega), if_neg a5, uSt_no isC_m1]
theorem drop_getD (l : List Int) (i j : Nat) : (l.drop i).getD j (-1) = l.getD (i + j) (-1) := by rw [List.getD_eq_getElem?_getD, List.getD_eq_getElem?_getD, List.getElem?_drop]
end Go.Proofs.YtnhipiedjekkpaaGreatDoor.AXP
end
section
namespace Go.Proofs.YtnhipiedjekkpaaGreatDoor.AXP
open Go Go.Proofs.YtnhipiedjekkpaaGreatDoor.AX
mutual
def cntNd : Nd → Nat
  | ⟨_, _, _, _, _, c⟩ => 1 + cntNds c
def cntNds : List Nd → Nat
  | [] => 0
  | n :: l => cntNd n + cntNds l
end
end Go.Proofs.YtnhipiedjekkpaaGreatDoor.AXP
namespace Go.Proofs.YtnhipiedjekkpaaGreatDoor.AX
open Go AXP
theorem cntNd_eq (n : Nd) : cntNd n = 1 + cntNds n.kids := by cases n; rw [cntNd]
theorem cnt_app : ∀ (a b : List Nd), cntNds (a ++ b) = cntNds a + cntNds b
  | [], b => by simp [cntNds]
  | x :: a, b => by rw [List.cons_append, cntNds, cntNds, cnt_app a b]; omega
theorem cnt_one (n : Nd) : cntNds [n] = cntNd n := by simp [cntNds]
theorem cnt_take {l : List Nd} {i : Nat} (h : i < l.length) : cntNds (l.take (i + 1)) = cntNds (l.take i) + cntNd l[i] := by
  rw [← List.take_append_getElem h, cnt_app, cnt_one]
theorem cnt_take_le (l : List Nd) (i : Nat) : cntNds (l.take i) ≤ cntNds l := by
  have := cnt_app (l.take i) (l.drop i)
  rw [List.take_append_drop] at this; omega
theorem cnt_mem {l : List Nd} {i : Nat} (h : i < l.length) : cntNd l[i] ≤ cntNds l := by
  have := cnt_take h
  have := cnt_take_le l (i + 1)
  omega
theorem cnt_len : ∀ l : List Nd, l.length ≤ cntNds l
  | [] => Nat.zero_le _
  | n :: l => by have := cnt_len l; rw [cntNds, cntNd_eq, List.length_cons]; omega
end Go.Proofs.YtnhipiedjekkpaaGreatDoor.AX
end
section
namespace Go.Proofs.YtnhipiedjekkpaaGreatDoor.AXP
open Go Go.Proofs.YtnhipiedjekkpaaGreatDoor.AX
/-! ### Depth -/
mutual
def mxNd (d : Int) : Nd → Int → Int
  | ⟨k, _, _, _, _, c⟩, m => mxNds (d + 1) c (if (k == 2 || k == 3) = true then m else if d > m then d else m)
def mxNds (d : Int) : List Nd → Int → Int
  | [], m => m
  | n :: l, m => mxNds d l (mxNd d n m)
end
mutual
def dpR : Nd → Int
  | ⟨k, _, _, _, _, c⟩ => if (decide (dpRs c > 0) || !(k == 2 || k == 3)) = true then dpRs c + 1 else dpRs c
def dpRs : List Nd → Int
  | [] => 0
  | n :: l => if dpRs l > dpR n then dpRs l else dpR n
end
mutual
theorem dpR_nn : ∀ n : Nd, 0 ≤ dpR n
  | ⟨k, _, _, _, _, c⟩ => by rw [dpR]; have := dpRs_nn c; split <;> omega
theorem dpRs_nn : ∀ l : List Nd, 0 ≤ dpRs l
  | [] => by rw [dpRs]; omega
  | n :: l => by rw [dpRs]; have := dpR_nn n; have := dpRs_nn l; split <;> omega
end
mutual
theorem mx_dp : ∀ (n : Nd) (d m : Int), 1 ≤ d → 0 ≤ m → mxNd d n m = if dpR n = 0 then m else if d - 1 + dpR n > m then d - 1 + dpR n else m
  | ⟨k, _, _, _, _, c⟩, d, m, hd, hm => by
    rw [mxNd, dpR]
    have hc := dpRs_nn c
    by_cases hk : (k == 2 || k == 3) = true
    · rw [if_pos hk, mxs_dp c (d + 1) m (by omega) hm, hk]
      by_cases h0 : dpRs c = 0
      · have e : (if (decide (dpRs c > 0) || !true) = true then dpRs c + 1 else dpRs c) = 0 := by rw [h0]; rfl
        rw [e, if_pos h0, if_pos rfl]
      · have e : (if (decide (dpRs c > 0) || !true) = true then dpRs c + 1 else dpRs c) = dpRs c + 1 := if_pos (by simp; omega)
        rw [e, if_neg h0, if_neg (show ¬ dpRs c + 1 = 0 by omega), show d + 1 - 1 + dpRs c = d - 1 + (dpRs c + 1) by omega]
    · have hk' : (k == 2 || k == 3) = false := by simpa using hk
      have e : (if (decide (dpRs c > 0) || !false) = true then dpRs c + 1 else dpRs c) = dpRs c + 1 := if_pos (by simp)
      have hm' : 0 ≤ (if d > m then d else m) := by split <;> omega
      rw [if_neg hk, hk', e, if_neg (show ¬ dpRs c + 1 = 0 by omega), mxs_dp c (d + 1) _ (by omega) hm']
      by_cases h0 : dpRs c = 0
      · rw [if_pos h0, h0, show d - 1 + (0 + 1) = d by omega]
      · rw [if_neg h0, show d + 1 - 1 + dpRs c = d + dpRs c by omega, show d - 1 + (dpRs c + 1) = d + dpRs c by omega]
        split <;> split <;> (try split at *) <;> omega
theorem mxs_dp : ∀ (l : List Nd) (d m : Int), 1 ≤ d → 0 ≤ m → mxNds d l m = if dpRs l = 0 then m else if d - 1 + dpRs l > m then d - 1 + dpRs l else m
  | [], d, m, _, _ => by rw [mxNds, dpRs, if_pos rfl]
  | n :: l, d, m, hd, hm => by
    have h1 := dpR_nn n
    have h2 := dpRs_nn l
    have e := mx_dp n d m hd hm
    have hm' : 0 ≤ mxNd d n m := by rw [e]; split <;> (try split) <;> omega
    rw [mxNds, mxs_dp l d _ hd hm', e, dpRs]
    by_cases a : dpR n = 0
    · by_cases b : dpRs l = 0
      · simp [a, b]
      · have e2 : (if dpRs l > dpR n then dpRs l else dpR n) = dpRs l := if_pos (by omega)
        rw [e2, if_pos a]
    · by_cases b : dpRs l = 0
      · have e2 : (if dpRs l > dpR n then dpRs l else dpR n) = dpR n := if_neg (by omega)
        rw [e2, if_pos b]
      · rw [if_neg a, if_neg b]
        by_cases c : dpRs l > dpR n
        · rw [if_pos c, if_neg b]
          split <;> split <;> (try split) <;> omega
        · rw [if_neg c, if_neg a]
          split <;> split <;> (try split) <;> omega
end
theorem depth_eq (l : List Nd) : mxNds 1 l 0 = dpRs l := by
  rw [mxs_dp l 1 0 (by omega) (by omega)]
  have := dpRs_nn l
  split
  · omega
  · split <;> omega
/-! ### Words -/
/-! ### Right nodes -/
def uAll : Nat → List Int → List Int × Bool
  | 0, _ => ([], true)
  | f + 1, l => if l = [] then ([], true) else ((uDecL l).1 :: (uAll f (l.drop (uDecL l).2.1.toNat)).1, (uDecL l).2.2 && (uAll f (l.drop (uDecL l).2.1.toNat)).2)
def rightU (s : ByteArray) : Bool := (uAll s.size (bl s)).2
def goodB (s : ByteArray) : Bool := rightU s && (kb s).all fun b => b != 0 && b != 13
def smallB (b : UInt8) : Bool := decide (97 ≤ b.toNat) && decide (b.toNat ≤ 122)
def nameB (s : ByteArray) : Bool := decide (0 < s.size) && decide (s.size ≤ 24) && smallB ((kb s).getD 0 0) && (kb s).all fun b => smallB b || (decide (48 ≤ b.toNat) && decide (b.toNat ≤ 57)) || b == 45 || b == 58
def twiceB : List At → Bool
  | [] => false
  | a :: l => l.any (fun b => eqS a.name b.name) || twiceB l
def wrongE (m : ByteArray) (a : List At) : Int := if nameB m = false then 4 else if (a.any fun x => !(nameB x.name && goodB x.value)) = true then 4 else if twiceB a = true then 8 else if (a.length : Int) > 12 then 2 else 0
def rightB (n : Nd) : Bool :=
  if leafB n = true then n.space == 0 && eqS n.name ⟨#[]⟩ && n.attrs.length == 0 && n.kids.length == 0 && goodB n.text && (!eqS n.text ⟨#[]⟩ || n.kind == 3)
  else n.kind == 1 && decide (0 ≤ n.space) && decide (n.space ≤ 2) && eqS n.text ⟨#[]⟩ && wrongE n.name n.attrs == 0
def joinB : List Nd → Bool
  | a :: b :: l => (a.kind == 2 && b.kind == 2) || joinB (b :: l)
  | _ => false
mutual
def allB : Nd → Bool
  | ⟨k, s, m, a, t, c⟩ => rightB ⟨k, s, m, a, t, c⟩ && !joinB c && allBs c
def allBs : List Nd → Bool
  | [] => true
  | n :: l => allB n && allBs l
end
def checkS (l : List Nd) : Int := if (decide ((cntNds l : Int) > 300) || decide (mxNds 1 l 0 > 40)) = true then 2 else if (!joinB l && allBs l) = true then 0 else 4
mutual
def riR : Nd → Bool → Bool
  | ⟨k, s, m, a, t, c⟩, p => if (k == 2 && p) = true then false else if (k == 2 || k == 3) = true then s == 0 && eqS m ⟨#[]⟩ && a.length == 0 && c.length == 0 && goodB t && !(k == 2 && eqS t ⟨#[]⟩)
      else k == 1 && decide (0 ≤ s) && decide (s ≤ 2) && eqS t ⟨#[]⟩ && wrongE m a == 0 && riRs c false
def riRs : List Nd → Bool → Bool
  | [], _ => true
  | n :: l, p => riR n p && riRs l (n.kind == 2)
end
theorem allBs_nil_of (c : List Nd) (h : c.length = 0) : joinB c = false ∧ allBs c = true := by
  obtain rfl := List.eq_nil_of_length_eq_zero h
  exact ⟨rfl, by rw [allBs]⟩
def headT : List Nd → Bool
  | [] => false
  | n :: _ => n.kind == 2
theorem joinB_head (n : Nd) (l : List Nd) : joinB (n :: l) = ((n.kind == 2 && headT l) || joinB l) := by
  cases l with
  | nil => simp [joinB, headT]
  | cons b l => rw [joinB]; rfl
mutual
theorem riR_eq : ∀ (n : Nd) (p : Bool), riR n p = (!(n.kind == 2 && p) && allB n)
  | ⟨k, s, m, a, t, c⟩, p => by
    rw [riR, allB]
    dsimp only
    by_cases h1 : (k == 2 && p) = true
    · rw [if_pos h1, h1]; rfl
    · have h1' : (k == 2 && p) = false := by simpa using h1
      rw [if_neg h1, h1', Bool.not_false, Bool.true_and]
      unfold rightB leafB
      dsimp only
      by_cases h2 : (k == 2 || k == 3) = true
      · rw [if_pos h2, if_pos h2]
        cases hc : (c.length == 0) with
        | false => simp
        | true =>
          obtain ⟨j1, j2⟩ := allBs_nil_of c (by simpa using hc)
          have e : (!(k == 2 && eqS t ⟨#[]⟩)) = (!eqS t ⟨#[]⟩ || k == 3) := by
            rcases (by simpa using h2 : k = 2 ∨ k = 3) with rfl | rfl
            · cases eqS t ⟨#[]⟩ <;> rfl
            · cases eqS t ⟨#[]⟩ <;> rfl
          simp only [j1, j2, Bool.not_false, Bool.and_true, e]
      · rw [if_neg h2, if_neg h2, riRs_eq c false, Bool.and_false, Bool.not_false, Bool.true_and]
        simp only [Bool.and_assoc]
theorem riRs_eq : ∀ (l : List Nd) (p : Bool), riRs l p = (!(headT l && p) && (!joinB l && allBs l))
  | [], p => by rw [riRs, allBs]; rfl
  | n :: l, p => by
    rw [riRs, riR_eq n p, riRs_eq l _, joinB_head, allBs]
    show _ = (!(n.kind == 2 && p) && _)
    cases (n.kind == 2 && p) <;> cases n.kind == 2 <;> cases headT l <;> cases joinB l <;> cases allB n <;> cases allBs l <;> rfl
end
theorem right_eq (l : List Nd) : riRs l false = (!joinB l && allBs l) := by rw [riRs_eq, Bool.and_false]; rfl
end Go.Proofs.YtnhipiedjekkpaaGreatDoor.AXP
end
section
namespace Go.Proofs.YtnhipiedjekkpaaGreatDoor.AXP
open Go Go.Proofs.YtnhipiedjekkpaaGreatDoor.AX
def fstC (s : ByteArray) : Int := if s.size = 0 then 0 else (uDecL (bl s)).1
def fstN (s : ByteArray) : Int := if s.size = 0 then 0 else (uDecL (bl s)).2.1
def strangeB (s : ByteArray) : Bool := fstC s == 65533 && fstN s == 1
def goC (c x : Int) : Int := IntKind.i64.wrap (BitVec.ofInt 64 (IntKind.i64.wrap (c * 2 ^ (min (Int.toNat 6) 64))) ||| BitVec.ofInt 64 (IntKind.i64.wrap (IntKind.u8.wrap (BitVec.ofInt 8 x &&& BitVec.ofInt 8 63).toNat))).toNat
def contB (x : Int) : Bool := !(IntKind.u8.wrap (BitVec.ofInt 8 x &&& BitVec.ofInt 8 192).toNat != 128)
def byteA (s : ByteArray) (i : Nat) : Int := ((s.get! i).toNat : Int)
def allCt (s : ByteArray) : Nat → Nat → Bool
  | 0, _ => true
  | f + 1, i => contB (byteA s i) && allCt s f (i + 1)
def accC (s : ByteArray) : Nat → Nat → Int → Int
  | 0, _, c => c
  | f + 1, i, c => accC s f (i + 1) (goC c (byteA s i))
def stopC (s : ByteArray) : Nat → Nat → Int → Int
  | 0, _, c => c
  | f + 1, i, c => if contB (byteA s i) = true then stopC s f (i + 1) (goC c (byteA s i)) else c
def smI (n : Int) : Bool := decide (97 ≤ n) && decide (n ≤ 122)
def allP (f : Int → Bool) (s : ByteArray) : Bool := (kb s).all fun b => f (b.toNat : Int)
def nm1 (n : Int) : Bool := smI n || (decide (48 ≤ n) && decide (n ≤ 57)) || n == 45 || n == 58
def gd1 (n : Int) : Bool := n != 0 && n != 13
end Go.Proofs.YtnhipiedjekkpaaGreatDoor.AXP
namespace Go.Proofs.YtnhipiedjekkpaaGreatDoor.AX
open Go AXP
def conIsU : Con := conP [.int] fun (c : Int) => { res := .bool (isC c) }
def conLongU : Con := conP [.u8] fun (b : Int) => { pre := some (0 ≤ b ∧ b < 256), res := .int .i64 (lng b) }
noncomputable def cxFirst : Cx := cxT (tabLook [(158, conIsU), (157, conLongU)])
def lsFirst : LS where
  keep := [(0, .as), (4, .as), (5, .as), (6, .as)]
  left := [(0, .as), (4, .as), (5, .as), (2, .as), (3, .as)]
  sum := fun vs bs K => match vs, bs with
    | [.str s, .int .i64 n, .int .i64 c, .int .i64 i], [] => Rq (i = 1 ∧ 1 ≤ n ∧ n ≤ 4 ∧ n ≤ s.size)
      (Br (allCt s (n.toNat - 1) 1) (K (.exit 0) [.str s, .int .i64 n, .int .i64 (accC s (n.toNat - 1) 1 c), .any, .any] []) (K .ret [.str s, .int .i64 n, .int .i64 (stopC s (n.toNat - 1) 1 c), .int .i64 65533, .int .i64 1] []))
    | _, _ => False
def conFirstU : Con := conP [.str] fun (s : ByteArray) => { res := .tup [.int .i64 (fstC s), .int .i64 (fstN s)] }
noncomputable def cxStr : Cx := cxT (tabLook [(148, conFirstU)])
def conStrange : Con := conP [.str] fun (s : ByteArray) => { res := .bool (strangeB s) }
noncomputable def cxRight : Cx := cxT (tabLook [(148, conFirstU), (147, conStrange)])
def lsRight : LS where
  keep := [(0, .as)]
  left := [(2, .as)]
  sum := fun vs bs K => match vs, bs with
    | [.str s], [] => Br (rightU s) (K (.exit 0) [.any] []) (K .ret [.bool false] [])
    | _, _ => False
def conRightU : Con := conP [.str] fun (s : ByteArray) => { res := .bool (rightU s) }
def conSmallP : Con := conP [.u8] fun (b : Int) => { res := .bool (smI b) }
def conDigitC : Con := conP [.u8] fun (b : Int) => { res := .bool (decide (48 ≤ b) && decide (b ≤ 57)) }
noncomputable def cxNm1 : Cx := cxT (tabLook [(149, conSmallP), (151, conDigitC)])
def conNm1 : Con := conP [.u8] fun (b : Int) => { res := .bool (nm1 b) }
def conGd1 : Con := conP [.u8] fun (b : Int) => { res := .bool (gd1 b) }
noncomputable def cxAllP : Cx := cxT (tabLook [(150, conNm1), (140, conGd1)])
def lsAllN : LS where
  keep := [(0, .as), (1, .as), (7, .as), (8, .as)]
  left := [(4, .as)]
  sum := fun vs bs K => match vs, bs with
    | [.str s, .fn f [], .int .i64 m, .int .i64 i], [] => Rq (f = 150 ∧ m = s.size ∧ i = 0 ∧ s.size ≤ maxSl) (Br (allP nm1 s) (K (.exit 0) [.any] []) (K .ret [.bool false] []))
    | _, _ => False
def lsAllG : LS where
  keep := [(0, .as), (1, .as), (7, .as), (8, .as)]
  left := [(4, .as)]
  sum := fun vs bs K => match vs, bs with
    | [.str s, .fn f [], .int .i64 m, .int .i64 i], [] => Rq (f = 140 ∧ m = s.size ∧ i = 0 ∧ s.size ≤ maxSl) (Br (allP gd1 s) (K (.exit 0) [.any] []) (K .ret [.bool false] []))
    | _, _ => False
def conAllN : Con := conP [.str, .fn 150] fun (s : ByteArray) _ => { res := .bool (allP nm1 s) }
def conAllG : Con := conP [.str, .fn 140] fun (s : ByteArray) _ => { res := .bool (allP gd1 s) }
noncomputable def cxName : Cx := cxT (tabLook [(149, conSmallP), (139, conAllN)])
def conNameP : Con := conP [.str] fun (s : ByteArray) => { res := .bool (nameB s) }
noncomputable def cxGood : Cx := cxT (tabLook [(138, conRightU), (139, conAllG)])
def conGoodP : Con := conP [.str] fun (s : ByteArray) => { res := .bool (goodB s) }
end Go.Proofs.YtnhipiedjekkpaaGreatDoor.AX
end
section
namespace Go.Proofs.YtnhipiedjekkpaaGreatDoor.AX
open Go AXP
set_option maxRecDepth 100000
theorem vcIsUF (c : Int) (Q : List AV → List Blk → List Blk → Prop) : (funA cx0 (LL Tryz.f158 []) Tryz.f158 [.int .i64 c] [] [] Q) = (
Br (decide (c ≥ (0 : Int)))
 (Br (decide (c < (1114112 : Int)))
 (Br (decide (c < (55296 : Int))) (Q [AV.bool true] [] []) (Q [AV.bool (decide (c > (57343 : Int)))] [] []))
 (Q [AV.bool false] [] []))
 (Q [AV.bool false] [] [])) := by kernel_rfl
theorem vcLongUF (b : Int) (Q : List AV → List Blk → List Blk → Prop) : (funA cx0 (LL Tryz.f157 []) Tryz.f157 [.int .u8 b] [] [] Q) = (
Br (decide (b < (128 : Int))) (Q [AV.int IntKind.i64 (1 : Int)] [] [])
 (Br (decide (b < (192 : Int))) (Q [AV.int IntKind.i64 (0 : Int)] [] [])
 (Br (decide (b ≥ (248 : Int))) (Q [AV.int IntKind.i64 (0 : Int)] [] [])
 (Br (decide (b < (224 : Int))) (Q [AV.int IntKind.i64 (2 : Int)] [] [])
 (Br (decide (b < (240 : Int))) (Q [AV.int IntKind.i64 (3 : Int)] [] [])
 (Q [AV.int IntKind.i64 (4 : Int)] [] [])))))) := by kernel_rfl
theorem vcFirstB (s : ByteArray) (n c i : Int) (K : Ex → List AV → List Blk → Prop) : (bodyA cxFirst (LL Tryz.f148 [lsFirst]) Tryz.f148.ntmps (loopAt Tryz.f148 0).1 (loopAt Tryz.f148 0).2 lsFirst.keep lsFirst.left K [.str s, .int .i64 n, .int .i64 c, .int .i64 i] []) = (
Br (decide (i < n))
 (Rq ((0 : Int) ≤ i ∧ i < (↑s.size : Int))
 (Br
 (IntKind.u8.wrap
 (↑(BitVec.ofInt IntKind.u8.bits (↑(s.get! i.toNat).toNat : Int) &&&
 BitVec.ofInt IntKind.u8.bits (192 : Int)).toNat :
 Int) !=
 (128 : Int))
 (K Ex.ret
 [AV.str s, AV.int IntKind.i64 n, AV.int IntKind.i64 c, AV.int IntKind.i64 (65533 : Int),
 AV.int IntKind.i64 (1 : Int)]
 [])
 (Rq ((0 : Int) ≤ (6 : Int))
 (Rq ((0 : Int) ≤ i ∧ i < (↑s.size : Int))
 (K Ex.norm
 [AV.str s, AV.int IntKind.i64 n,
 AV.int IntKind.i64
 (IntKind.i64.wrap
 (↑(BitVec.ofInt IntKind.i64.bits
 (IntKind.i64.wrap (c * (2 : Int) ^ min (Int.toNat (6 : Int)) IntKind.i64.bits)) |||
 BitVec.ofInt IntKind.i64.bits
 (IntKind.i64.wrap
 (IntKind.u8.wrap
 (↑(BitVec.ofInt IntKind.u8.bits (↑(s.get! i.toNat).toNat : Int) &&&
 BitVec.ofInt IntKind.u8.bits (63 : Int)).toNat :
 Int)))).toNat :
 Int)),
 AV.int IntKind.i64 (IntKind.i64.wrap (i + (1 : Int)))]
 [])))))
 (K (Ex.exit (0 : Nat)) [AV.str s, AV.int IntKind.i64 n, AV.int IntKind.i64 c, AV.any, AV.any] [])) := by kernel_rfl
theorem vcFirstF (s : ByteArray) (Q : List AV → List Blk → List Blk → Prop) : (funA cxFirst (LL Tryz.f148 [lsFirst]) Tryz.f148 [.str s] [] [] Q) = (
Br (eqS s (ByteArray.mk (Array.mk []))) (Q [AV.int IntKind.i64 (0 : Int), AV.int IntKind.i64 (0 : Int)] [] [])
 (Rq ((0 : Int) ≤ (0 : Int) ∧ (0 : Int) < (↑s.size : Int))
 (Rq
 ((0 : Int) ≤ (↑(s.get! (Int.toNat (0 : Int))).toNat : Int) ∧
 (↑(s.get! (Int.toNat (0 : Int))).toNat : Int) < (256 : Int))
 (Br (lng (↑(s.get! (Int.toNat (0 : Int))).toNat : Int) == (0 : Int))
 (Q [AV.int IntKind.i64 (65533 : Int), AV.int IntKind.i64 (1 : Int)] [] [])
 (Gv (s.size ≤ maxSl)
 (Br (decide (lng (↑(s.get! (Int.toNat (0 : Int))).toNat : Int) > (↑s.size : Int)))
 (Q [AV.int IntKind.i64 (65533 : Int), AV.int IntKind.i64 (1 : Int)] [] [])
 (Rq ((0 : Int) ≤ (0 : Int) ∧ (0 : Int) < (↑s.size : Int))
 (Rq
 ((0 : Int) ≤ lng (↑(s.get! (Int.toNat (0 : Int))).toNat : Int) ∧
 lng (↑(s.get! (Int.toNat (0 : Int))).toNat : Int) <
 (↑[Tw.mk (0 : Int) (0 : Int), Tw.mk (0 : Int) (0 : Int), Tw.mk (192 : Int) (128 : Int),
 Tw.mk (224 : Int) (2048 : Int), Tw.mk (240 : Int) (65536 : Int)].length :
 Int))
 (Rq
 ((1 : Int) = (1 : Int) ∧
 (1 : Int) ≤ lng (↑(s.get! (Int.toNat (0 : Int))).toNat : Int) ∧
 lng (↑(s.get! (Int.toNat (0 : Int))).toNat : Int) ≤ (4 : Int) ∧
 lng (↑(s.get! (Int.toNat (0 : Int))).toNat : Int) ≤ (↑s.size : Int))
 (Br (allCt s ((lng (↑(s.get! (Int.toNat (0 : Int))).toNat : Int)).toNat - (1 : Nat)) (1 : Nat))
 (Br
 (!isC
 (accC s ((lng (↑(s.get! (Int.toNat (0 : Int))).toNat : Int)).toNat - (1 : Nat)) (1 : Nat)
 (IntKind.i64.wrap
 (IntKind.i64.wrap (↑(s.get! (Int.toNat (0 : Int))).toNat : Int) -
 (rd Ty.two
 [Tw.mk (0 : Int) (0 : Int), Tw.mk (0 : Int) (0 : Int),
 Tw.mk (192 : Int) (128 : Int), Tw.mk (224 : Int) (2048 : Int),
 Tw.mk (240 : Int) (65536 : Int)]
 (lng (↑(s.get! (Int.toNat (0 : Int))).toNat : Int))).1))))
 (Q [AV.int IntKind.i64 (65533 : Int), AV.int IntKind.i64 (1 : Int)] [] [])
 (Rq
 ((0 : Int) ≤ lng (↑(s.get! (Int.toNat (0 : Int))).toNat : Int) ∧
 lng (↑(s.get! (Int.toNat (0 : Int))).toNat : Int) <
 (↑[Tw.mk (0 : Int) (0 : Int), Tw.mk (0 : Int) (0 : Int), Tw.mk (192 : Int) (128 : Int),
 Tw.mk (224 : Int) (2048 : Int), Tw.mk (240 : Int) (65536 : Int)].length :
 Int))
 (Br
 (decide
 (accC s ((lng (↑(s.get! (Int.toNat (0 : Int))).toNat : Int)).toNat - (1 : Nat)) (1 : Nat)
 (IntKind.i64.wrap
 (IntKind.i64.wrap (↑(s.get! (Int.toNat (0 : Int))).toNat : Int) -
 (rd Ty.two
 [Tw.mk (0 : Int) (0 : Int), Tw.mk (0 : Int) (0 : Int),
 Tw.mk (192 : Int) (128 : Int), Tw.mk (224 : Int) (2048 : Int),
 Tw.mk (240 : Int) (65536 : Int)]
 (lng (↑(s.get! (Int.toNat (0 : Int))).toNat : Int))).1)) <
 (rd Ty.two
 [Tw.mk (0 : Int) (0 : Int), Tw.mk (0 : Int) (0 : Int), Tw.mk (192 : Int) (128 : Int),
 Tw.mk (224 : Int) (2048 : Int), Tw.mk (240 : Int) (65536 : Int)]
 (lng (↑(s.get! (Int.toNat (0 : Int))).toNat : Int))).2))
 (Q [AV.int IntKind.i64 (65533 : Int), AV.int IntKind.i64 (1 : Int)] [] [])
 (Q
 [AV.int IntKind.i64
 (accC s ((lng (↑(s.get! (Int.toNat (0 : Int))).toNat : Int)).toNat - (1 : Nat))
 (1 : Nat)
 (IntKind.i64.wrap
 (IntKind.i64.wrap (↑(s.get! (Int.toNat (0 : Int))).toNat : Int) -
 (rd Ty.two
 [Tw.mk (0 : Int) (0 : Int), Tw.mk (0 : Int) (0 : Int),
 Tw.mk (192 : Int) (128 : Int), Tw.mk (224 : Int) (2048 : Int),
 Tw.mk (240 : Int) (65536 : Int)]
 (lng (↑(s.get! (Int.toNat (0 : Int))).toNat : Int))).1))),
 AV.int IntKind.i64 (lng (↑(s.get! (Int.toNat (0 : Int))).toNat : Int))]
 [] []))))
 (Q [AV.int IntKind.i64 (65533 : Int), AV.int IntKind.i64 (1 : Int)] [] []))))))))))) := by kernel_rfl
theorem vcStrangeF (s : ByteArray) (Q : List AV → List Blk → List Blk → Prop) : (funA cxStr (LL Tryz.f147 []) Tryz.f147 [.str s] [] [] Q) = (
Br (fstC s == (65533 : Int)) (Q [AV.bool (fstN s == (1 : Int))] [] []) (Q [AV.bool false] [] [])) := by kernel_rfl
theorem vcRightB (s : ByteArray) (K : Ex → List AV → List Blk → Prop) : (bodyA cxRight (LL Tryz.f138 [lsRight]) Tryz.f138.ntmps (loopAt Tryz.f138 0).1 (loopAt Tryz.f138 0).2 lsRight.keep lsRight.left K [.str s] []) = (
Br (!eqS s (ByteArray.mk (Array.mk [])))
 (Br (strangeB s) (K Ex.ret [AV.bool false] [])
 (Rq ((0 : Int) ≤ fstN s ∧ fstN s ≤ (↑s.size : Int) ∧ (↑s.size : Int) ≤ (↑s.size : Int))
 (K Ex.norm [AV.str (s.extract (fstN s).toNat (↑s.size : Int).toNat)] [])))
 (K (Ex.exit (0 : Nat)) [AV.any] [])) := by kernel_rfl
theorem vcRightF (s : ByteArray) (Q : List AV → List Blk → List Blk → Prop) : (funA cxRight (LL Tryz.f138 [lsRight]) Tryz.f138 [.str s] [] [] Q) = (
Br (rightU s) (Q [AV.bool true] [] []) (Q [AV.bool false] [] [])) := by kernel_rfl
theorem vcSmallF (b : Int) (Q : List AV → List Blk → List Blk → Prop) : (funA cx0 (LL Tryz.f149 []) Tryz.f149 [.int .u8 b] [] [] Q) = (
Br (decide (b ≥ (97 : Int))) (Q [AV.bool (decide (b ≤ (122 : Int)))] [] []) (Q [AV.bool false] [] [])) := by kernel_rfl
theorem vcDigitF (b : Int) (Q : List AV → List Blk → List Blk → Prop) : (funA cx0 (LL Tryz.f151 []) Tryz.f151 [.int .u8 b] [] [] Q) = (
Br (decide (b ≥ (48 : Int))) (Q [AV.bool (decide (b ≤ (57 : Int)))] [] []) (Q [AV.bool false] [] [])) := by kernel_rfl
theorem vcNm1F (b : Int) (Q : List AV → List Blk → List Blk → Prop) : (funA cxNm1 (LL Tryz.f150 []) Tryz.f150 [.int .u8 b] [] [] Q) = (
Br (smI b) (Q [AV.bool true] [] [])
 (Br (decide ((48 : Int) ≤ b) && decide (b ≤ (57 : Int))) (Q [AV.bool true] [] [])
 (Br (b == (45 : Int)) (Q [AV.bool true] [] []) (Q [AV.bool (b == (58 : Int))] [] [])))) := by kernel_rfl
theorem vcGd1F (b : Int) (Q : List AV → List Blk → List Blk → Prop) : (funA cx0 (LL Tryz.f140 []) Tryz.f140 [.int .u8 b] [] [] Q) = (
Br (b != (0 : Int)) (Q [AV.bool (b != (13 : Int))] [] []) (Q [AV.bool false] [] [])) := by kernel_rfl
theorem vcAllNB (s : ByteArray) (m i : Int) (K : Ex → List AV → List Blk → Prop) : (bodyA cxAllP (LL Tryz.f139 [lsAllN]) Tryz.f139.ntmps (loopAt Tryz.f139 0).1 (loopAt Tryz.f139 0).2 lsAllN.keep lsAllN.left K [.str s, .fn 150 [], .int .i64 m, .int .i64 i] []) = (
Br (decide (i < m))
 (Rq ((0 : Int) ≤ i ∧ i < (↑s.size : Int))
 (Br (!nm1 (↑(s.get! i.toNat).toNat : Int)) (K Ex.ret [AV.bool false] [])
 (K Ex.norm
 [AV.str s, AV.fn 150 [], AV.int IntKind.i64 m, AV.int IntKind.i64 (IntKind.i64.wrap (i + (1 : Int)))]
 [])))
 (K (Ex.exit (0 : Nat)) [AV.any] [])) := by kernel_rfl
theorem vcAllNF (s : ByteArray) (Q : List AV → List Blk → List Blk → Prop) : (funA cxAllP (LL Tryz.f139 [lsAllN]) Tryz.f139 [.str s, .fn 150 []] [] [] Q) = (
Gv (s.size ≤ maxSl)
 (Rq ((150 : Nat) = (150 : Nat) ∧ (↑s.size : Int) = (↑s.size : Int) ∧ (0 : Int) = (0 : Int) ∧ s.size ≤ maxSl)
 (Br (allP nm1 s) (Q [AV.bool true] [] []) (Q [AV.bool false] [] [])))) := by kernel_rfl
theorem vcAllGB (s : ByteArray) (m i : Int) (K : Ex → List AV → List Blk → Prop) : (bodyA cxAllP (LL Tryz.f139 [lsAllG]) Tryz.f139.ntmps (loopAt Tryz.f139 0).1 (loopAt Tryz.f139 0).2 lsAllG.keep lsAllG.left K [.str s, .fn 140 [], .int .i64 m, .int .i64 i] []) = (
Br (decide (i < m))
 (Rq ((0 : Int) ≤ i ∧ i < (↑s.size : Int))
 (Br (!gd1 (↑(s.get! i.toNat).toNat : Int)) (K Ex.ret [AV.bool false] [])
 (K Ex.norm
 [AV.str s, AV.fn 140 [], AV.int IntKind.i64 m, AV.int IntKind.i64 (IntKind.i64.wrap (i + (1 : Int)))]
 [])))
 (K (Ex.exit (0 : Nat)) [AV.any] [])) := by kernel_rfl
theorem vcAllGF (s : ByteArray) (Q : List AV → List Blk → List Blk → Prop) : (funA cxAllP (LL Tryz.f139 [lsAllG]) Tryz.f139 [.str s, .fn 140 []] [] [] Q) = (
Gv (s.size ≤ maxSl)
 (Rq ((140 : Nat) = (140 : Nat) ∧ (↑s.size : Int) = (↑s.size : Int) ∧ (0 : Int) = (0 : Int) ∧ s.size ≤ maxSl)
 (Br (allP gd1 s) (Q [AV.bool true] [] []) (Q [AV.bool false] [] [])))) := by kernel_rfl
theorem vcNamePF (s : ByteArray) (Q : List AV → List Blk → List Blk → Prop) : (funA cxName (LL Tryz.f141 []) Tryz.f141 [.str s] [] [] Q) = (
Br (eqS s (ByteArray.mk (Array.mk []))) (Q [AV.bool false] [] [])
 (Br (decide ((↑s.size : Int) > (24 : Int))) (Gv (s.size ≤ maxSl) (Q [AV.bool false] [] []))
 (Rq ((0 : Int) ≤ (0 : Int) ∧ (0 : Int) < (↑s.size : Int))
 (Gv (s.size ≤ maxSl)
 (Br (!smI (↑(s.get! (Int.toNat (0 : Int))).toNat : Int)) (Q [AV.bool false] [] [])
 (Q [AV.bool (allP nm1 s)] [] [])))))) := by kernel_rfl
theorem vcGoodPF (s : ByteArray) (Q : List AV → List Blk → List Blk → Prop) : (funA cxGood (LL Tryz.f128 []) Tryz.f128 [.str s] [] [] Q) = (
Br (rightU s) (Q [AV.bool (allP gd1 s)] [] []) (Q [AV.bool false] [] [])) := by kernel_rfl
end Go.Proofs.YtnhipiedjekkpaaGreatDoor.AX
end
section
namespace Go.Proofs.YtnhipiedjekkpaaGreatDoor.AXP
open Go Go.Proofs.YtnhipiedjekkpaaGreatDoor.AX
def beg {α : Type} (f : α → α → Bool) : List α → List α → Bool
  | [], _ => true
  | x :: a, y :: b => f x y && beg f a b
  | _ :: _, [] => false
def eql {α : Type} (f : α → α → Bool) : List α → List α → Bool
  | [], [] => true
  | x :: a, y :: b => f x y && eql f a b
  | _, _ => false
def eqAt (x y : At) : Bool := eqS x.1 y.1 && eqS x.2 y.2
def eqI (x y : Int) : Bool := x == y
theorem beg_eql {α : Type} {f : α → α → Bool} : ∀ {a b : List α}, (beg f a b && (a.length == b.length)) = eql f a b
  | [], [] => rfl
  | [], _ :: _ => by simp [beg, eql]
  | _ :: _, [] => by simp [beg, eql]
  | x :: a, y :: b => by simp only [beg, eql, ← beg_eql (a := a) (b := b), List.length_cons, Bool.and_assoc]; simp
end Go.Proofs.YtnhipiedjekkpaaGreatDoor.AXP
namespace Go.Proofs.YtnhipiedjekkpaaGreatDoor.AX
open Go AXP
instance : BEq (den .int) := (inferInstance : BEq Int)
instance : BEq (den .u8) := (inferInstance : BEq Int)
instance : BEq (den .str) := (inferInstance : BEq ByteArray)
def noLoop : Loops := fun _ _ _ => False
def sumBeg (t : Ty) (f : den t → den t → Bool) (a b c : List (den t)) (m i : Int) (K : Ex → List AV → List Blk → Prop) : Prop :=
  Rq (c = a ∧ m = a.length ∧ i = 0 ∧ a.length ≤ maxSl) (Br (beg f a b) (K (.exit 0) [.row t a, .row t b, .any] []) (K .ret [.row t a, .row t b, .bool false] []))
def keepBeg : List (Tmp × Want) := [(0, .as), (1, .as), (6, .as), (7, .as), (8, .as)]
def leftBeg : List (Tmp × Want) := [(0, .as), (1, .as), (4, .as)]
def sumAts (vs : List AV) (bs : List Blk) (K : Ex → List AV → List Blk → Prop) : Prop :=
  match vs, bs with
  | [.row .attr a, .row .attr b, .row .attr c, .int .i64 m, .int .i64 i], [] => sumBeg .attr eqAt a b c m i K
  | _, _ => False
def sumIts (vs : List AV) (bs : List Blk) (K : Ex → List AV → List Blk → Prop) : Prop :=
  match vs, bs with
  | [.row .int a, .row .int b, .row .int c, .int .i64 m, .int .i64 i], [] => sumBeg .int eqI a b c m i K
  | _, _ => False
end Go.Proofs.YtnhipiedjekkpaaGreatDoor.AX
end
section
namespace Go.Proofs.YtnhipiedjekkpaaGreatDoor.AX
open Go AXP
set_option maxRecDepth 100000
theorem vcAts (a b : List At) (i m : Int) (K : Ex → List AV → List Blk → Prop) : (bodyA cx0 noLoop Tryz.f74.ntmps (blkOf Tryz.f74 0) (bodyOf Tryz.f74 0) keepBeg leftBeg K [.row .attr a, .row .attr b, .row .attr a, .int .i64 m, .int .i64 i] []) = (
Br (decide (i < m))
 (Br (decide (i ≥ (↑b.length : Int)))
 (Gv (b.length ≤ maxSl) (K Ex.ret [AV.row Ty.attr a, AV.row Ty.attr b, AV.bool false] []))
 (Rq ((0 : Int) ≤ i ∧ i < (↑a.length : Int))
 (Rq ((0 : Int) ≤ i ∧ i < (↑b.length : Int))
 (Gv (b.length ≤ maxSl)
 (Br (!(eqS (rd Ty.attr a i).1 (rd Ty.attr b i).1 && eqS (rd Ty.attr a i).2 (rd Ty.attr b i).2))
 (K Ex.ret [AV.row Ty.attr a, AV.row Ty.attr b, AV.bool false] [])
 (K Ex.norm
 [AV.row Ty.attr a, AV.row Ty.attr b, AV.row Ty.attr a, AV.int IntKind.i64 m,
 AV.int IntKind.i64 (IntKind.i64.wrap (i + (1 : Int)))]
 []))))))
 (K (Ex.exit (0 : Nat)) [AV.row Ty.attr a, AV.row Ty.attr b, AV.any] [])) := by kernel_rfl
theorem vcAtsF (a b : List At) (Q : List AV → List Blk → List Blk → Prop) : (funA cx0 (fun _ s K => loopA Tryz.f74.ntmps keepBeg leftBeg sumAts s K) Tryz.f74 [.row .attr a, .row .attr b] [] [] Q) = (
Gv (a.length ≤ maxSl)
 (Rq (a = a ∧ (↑a.length : Int) = (↑a.length : Int) ∧ (0 : Int) = (0 : Int) ∧ a.length ≤ maxSl)
 (Br (beg eqAt a b)
 (Gv (a.length ≤ maxSl) (Gv (b.length ≤ maxSl) (Q [AV.bool ((↑a.length : Int) == (↑b.length : Int))] [] [])))
 (Q [AV.bool false] [] [])))) := by kernel_rfl
theorem vcIts (a b : List Int) (i m : Int) (K : Ex → List AV → List Blk → Prop) : (bodyA cx0 noLoop Tryz.f36.ntmps (blkOf Tryz.f36 0) (bodyOf Tryz.f36 0) keepBeg leftBeg K [.row .int a, .row .int b, .row .int a, .int .i64 m, .int .i64 i] []) = (
Br (decide (i < m))
 (Br (decide (i ≥ (↑b.length : Int)))
 (Gv (b.length ≤ maxSl) (K Ex.ret [AV.row Ty.int a, AV.row Ty.int b, AV.bool false] []))
 (Rq ((0 : Int) ≤ i ∧ i < (↑a.length : Int))
 (Rq ((0 : Int) ≤ i ∧ i < (↑b.length : Int))
 (Gv (b.length ≤ maxSl)
 (Br (rd Ty.int a i != rd Ty.int b i) (K Ex.ret [AV.row Ty.int a, AV.row Ty.int b, AV.bool false] [])
 (K Ex.norm
 [AV.row Ty.int a, AV.row Ty.int b, AV.row Ty.int a, AV.int IntKind.i64 m,
 AV.int IntKind.i64 (IntKind.i64.wrap (i + (1 : Int)))]
 []))))))
 (K (Ex.exit (0 : Nat)) [AV.row Ty.int a, AV.row Ty.int b, AV.any] [])) := by kernel_rfl
theorem vcItsF (a b : List Int) (Q : List AV → List Blk → List Blk → Prop) : (funA cx0 (fun _ s K => loopA Tryz.f36.ntmps keepBeg leftBeg sumIts s K) Tryz.f36 [.row .int a, .row .int b] [] [] Q) = (
Gv (a.length ≤ maxSl)
 (Rq (a = a ∧ (↑a.length : Int) = (↑a.length : Int) ∧ (0 : Int) = (0 : Int) ∧ a.length ≤ maxSl)
 (Br (beg eqI a b)
 (Gv (a.length ≤ maxSl) (Gv (b.length ≤ maxSl) (Q [AV.bool ((↑a.length : Int) == (↑b.length : Int))] [] [])))
 (Q [AV.bool false] [] [])))) := by kernel_rfl
end Go.Proofs.YtnhipiedjekkpaaGreatDoor.AX
end
section
namespace Go.Proofs.YtnhipiedjekkpaaGreatDoor.AX
open Go AXP
set_option maxRecDepth 100000

theorem wrap_id {i : Int} (h0 : -9223372036854775808 ≤ i) (h1 : i < 9223372036854775808) : IntKind.i64.wrap i = i := by
  rw [IntKind.wrap_i64]; omega
def begRound (t : Ty) (f : den t → den t → Bool) (a b : List (den t)) (i m : Int) (K : Ex → List AV → List Blk → Prop) : Prop :=
  Br (decide (i < m))
    (Br (decide (i ≥ (b.length : Int))) (Gv (b.length ≤ maxSl) (K Ex.ret [.row t a, .row t b, .bool false] []))
      (Rq (0 ≤ i ∧ i < (a.length : Int)) (Rq (0 ≤ i ∧ i < (b.length : Int)) (Gv (b.length ≤ maxSl)
        (Br (!(f (rd t a i) (rd t b i))) (K Ex.ret [.row t a, .row t b, .bool false] [])
          (K Ex.norm [.row t a, .row t b, .row t a, .int .i64 m, .int .i64 (IntKind.i64.wrap (i + 1))] []))))))
    (K (Ex.exit 0) [.row t a, .row t b, .any] [])
theorem beg_drop {α : Type} {f : α → α → Bool} {a b : List α} {i : Nat} (ha : i < a.length) (hb : i < b.length) : beg f (a.drop i) (b.drop i) = (f a[i] b[i] && beg f (a.drop (i + 1)) (b.drop (i + 1))) := by
  rw [List.drop_eq_getElem_cons ha, List.drop_eq_getElem_cons hb]; rfl
theorem beg_rounds {cx : Cx} {L : Loops} {n bl : Nat} {c : Code} {keep left : List (Tmp × Want)} {t : Ty} {f : den t → den t → Bool} {a b : List (den t)} (hb : ∀ (i : Nat) K, begRound t f a b i a.length K → bodyA cx L n bl c keep left K [.row t a, .row t b, .row t a, .int .i64 a.length, .int .i64 i] [])
    {K : Ex → List AV → List Blk → Prop} (hm : a.length ≤ maxSl) : ∀ (k i : Nat), i + k = a.length → (beg f (a.drop i) (b.drop i) = true → K (.exit 0) [.row t a, .row t b, .any] []) → (beg f (a.drop i) (b.drop i) = false → K .ret [.row t a, .row t b, .bool false] []) →
      roundsA cx L n bl c keep left K (k + 1) [.row t a, .row t b, .row t a, .int .i64 a.length, .int .i64 i] [] := by
  intro k
  induction k with
  | zero =>
    intro i hi h1 h2
    rw [roundsA]
    refine hb i _ ⟨fun h => ?_, fun _ => h1 ?_⟩
    · simp at h; omega
    · rw [List.drop_eq_nil_of_le (by omega)]; rfl
  | succ k ih =>
    intro i hi h1 h2
    have hlt : i < a.length := by omega
    rw [roundsA]
    have hw : IntKind.i64.wrap ((i : Int) + 1) = ((i + 1 : Nat) : Int) := by
      rw [wrap_id] <;> unfold maxSl at hm <;> omega
    refine hb i _ ⟨fun h => ⟨fun h3 => ⟨fun _ => h2 ?_⟩, fun h3 => ?_⟩, fun h => ?_⟩
    · simp at h3
      have e : b.drop i = [] := List.drop_eq_nil_of_le (by omega)
      rw [e, List.drop_eq_getElem_cons hlt]; rfl
    · simp at h3
      have hlb : i < b.length := by omega
      rw [beg_drop hlt hlb] at h1 h2
      have ra : rd t a (i : Int) = a[i] := by rw [rd_eq (by simpa using hlt)]; simp
      have rb : rd t b (i : Int) = b[i] := by rw [rd_eq (by simpa using hlb)]; simp
      refine ⟨⟨by omega, by omega⟩, ⟨⟨by omega, by omega⟩, ⟨fun _ => ⟨fun h4 => h2 ?_, fun h4 => ?_⟩⟩⟩⟩
      · rw [ra, rb] at h4; simp at h4; simp [h4]
      · rw [ra, rb] at h4
        simp at h4
        simp only [h4, Bool.true_and] at h1 h2
        rw [hw]
        exact ih (i + 1) (by omega) h1 h2
    · simp at h; omega
theorem sumBeg_ok {cx : Cx} {L : Loops} {n bl : Nat} {c : Code} {keep left : List (Tmp × Want)} {t : Ty} {f : den t → den t → Bool} {a b d : List (den t)} (hb : ∀ (i : Nat) K, begRound t f a b i a.length K → bodyA cx L n bl c keep left K [.row t a, .row t b, .row t a, .int .i64 a.length, .int .i64 i] []) {m i : Int} {K : Ex → List AV → List Blk → Prop} (h : sumBeg t f a b d m i K) : ∃ k, roundsA cx L n bl c keep left K k [.row t a, .row t b, .row t d, .int .i64 m, .int .i64 i] [] := by
  obtain ⟨⟨rfl, rfl, rfl, hm⟩, h⟩ := h
  exact ⟨_, beg_rounds hb hm d.length 0 (by omega) (fun e => h.yes e) (fun e => h.no e)⟩

def conAts : Con := fun args hp => match args, hp with
  | [x, y], [] => (asAttrs x).bind fun a => (asAttrs y).bind fun b => some { res := .bool (eql eqAt a b) }
  | _, _ => none
def conIts : Con := fun args hp => match args, hp with
  | [x, y], [] => (asInts x).bind fun a => (asInts y).bind fun b => some { res := .bool (eql eqI a b) }
  | _, _ => none
theorem asAttrs_le {x : AV} {l : List At} (h : asAttrs x = some l) : AVle x (.row .attr l) := fun w O I v hv => by
  cases x <;> first | (cases h; done) | exact .leaf (asAttrs_R (show LeafR w O I v _ from hv) h)
theorem asInts_le {x : AV} {l : List Int} (h : asInts x = some l) : AVle x (.row .int l) := fun w O I v hv => by
  cases x <;> first | (cases h; done) | exact .leaf (asInts_R (show LeafR w O I v _ from hv) h)
def begFun (t : Ty) (g : den t → den t → Bool) (a b : List (den t)) (Q : List AV → List Blk → List Blk → Prop) : Prop :=
  Gv (a.length ≤ maxSl) (Rq (a = a ∧ (a.length : Int) = a.length ∧ (0 : Int) = 0 ∧ a.length ≤ maxSl) (Br (beg g a b) (Gv (a.length ≤ maxSl) (Gv (b.length ≤ maxSl) (Q [AV.bool ((a.length : Int) == (b.length : Int))] [] []))) (Q [AV.bool false] [] [])))
theorem beg_fun {T : Nat → List AV → List Blk → Option Ans} (tok : TOK (cxT T)) {f : FuncId} {fn : Func} {t : Ty} {g : den t → den t → Bool} {sum : List AV → List Blk → (Ex → List AV → List Blk → Prop) → Prop} (hf : Tryz.prog.funcs[f]? = some fn) (hb : fn.body = some (fn.body.getD .skip)) (h1 : (loopsOf 0 (fn.body.getD .skip)).length = 1) (hcl : clearC [] (fn.body.getD .skip) = true) (hcl1 : clearC [] (bodyOf fn 0) = true) (hl0 : (loopsOf (blkOf fn 0) (bodyOf fn 0)).length = 0)
    (hsz : fn.results.size = 1) (hnt : Nat.ble 2 fn.ntmps = true)
    {ok : List (den t) → Prop} (hbody : ∀ a b, ok a → ∀ (i : Nat) K, begRound t g a b i a.length K → bodyA (cxT T) noLoop fn.ntmps (blkOf fn 0) (bodyOf fn 0) keepBeg leftBeg K [.row t a, .row t b, .row t a, .int .i64 a.length, .int .i64 i] [])
    (hsum : ∀ vs bs K, sum vs bs K → ∃ a b d m i, ok a ∧ vs = [.row t a, .row t b, .row t d, .int .i64 m, .int .i64 i] ∧ bs = [] ∧ sumBeg t g a b d m i K)
    (a b : List (den t)) (pre : Option Prop) (hfun : (∀ p, pre = some p → p) → ∀ Q, begFun t g a b Q → funA (cxT T) (fun _ s K => loopA fn.ntmps keepBeg leftBeg sum s K) fn [.row t a, .row t b] [] [] Q)
     : Meets cx0 f [.row t a, .row t b] [] { pre := pre, res := .bool (eql g a b) } := by
  refine meets_any (T := fun _ _ _ => none) (show Meets (cxT T) _ _ _ _ from ?_)
  refine fun_meets (cx := cxT T) (ws := []) (L := fun _ s K => loopA fn.ntmps keepBeg leftBeg sum s K) (cxOK T) tok hf hb (loops_ok hb 1 h1 fun i hi s K hL => ?_) hcl ?_ fun hpre => ?_
  · have : i = 0 := by omega
    subst this
    refine loop_snd (L := noLoop) (cxOK T) tok (b := blkOf fn 0) (fun p hp => ?_) hcl1 (fun vs bs K hs => ?_) hL
    · rw [List.eq_nil_of_length_eq_zero hl0] at hp; cases hp
    · obtain ⟨a, b, d, m, i, ha, rfl, rfl, hs'⟩ := hsum vs bs K hs
      exact sumBeg_ok (hbody a b ha) hs'
  · simp only [formB, formS, noSame, sameB, ptrsB, kindsB, isTup, hsz, List.length_cons, List.length_nil, Bool.true_and, Bool.and_true]; exact hnt
  · refine hfun hpre _ ?_
    have key : ((a.length : Int) == (b.length : Int)) = (a.length == b.length) := by
      rw [Bool.eq_iff_iff]; simp only [beq_iff_eq]; exact Int.ofNat_inj
    refine ⟨fun ha => ⟨⟨rfl, rfl, rfl, ha⟩, ⟨fun e => ⟨fun _ => ⟨fun _ => ⟨fun _ h => (nomatch h), ?_, rfl, rfl⟩⟩⟩, fun e => ⟨fun _ h => (nomatch h), ?_, rfl, rfl⟩⟩⟩⟩
    · show [AV.bool _] = [AV.bool _]
      rw [← beg_eql, e, Bool.true_and, key]
    · show [AV.bool _] = [AV.bool _]
      rw [← beg_eql, e, Bool.false_and]
theorem tok0 : TOK (cxT fun _ _ _ => none) := ⟨fun _ _ _ _ h => (nomatch h), fun _ _ _ _ h => (nomatch h)⟩
theorem ats_holds : Holds 74 conAts := by
  intro args hp ans h
  unfold conAts at h
  split at h
  · rename_i x y
    simp only [Option.bind_eq_some_iff] at h
    obtain ⟨a, hx, b, hy, h⟩ := h
    injection h with h
    subst h
    refine Meets.weaken (.cons (asAttrs_le hx) (.cons (asAttrs_le hy) .nil)) ?_
    refine beg_fun tok0 (t := .attr) (g := eqAt) (sum := sumAts) (f := 74) (fn := Tryz.f74) (by kernel_rfl) (by kernel_rfl) (by kernel_rfl) (by kernel_rfl) (by kernel_rfl) (by kernel_rfl) (by kernel_rfl) (by kernel_rfl) (ok := fun _ => True) (fun a b _ i K h => Eq.mpr (vcAts a b i a.length K) h) (fun vs bs K hs => ?_) a b none (fun _ Q h => Eq.mpr (vcAtsF a b Q) h)
    unfold sumAts at hs
    split at hs
    · exact ⟨_, _, _, _, _, trivial, rfl, rfl, hs⟩
    · exact hs.elim
  · cases h
theorem its_holds : Holds 36 conIts := by
  intro args hp ans h
  unfold conIts at h
  split at h
  · rename_i x y
    simp only [Option.bind_eq_some_iff] at h
    obtain ⟨a, hx, b, hy, h⟩ := h
    injection h with h
    subst h
    refine Meets.weaken (.cons (asInts_le hx) (.cons (asInts_le hy) .nil)) ?_
    refine beg_fun tok0 (t := .int) (g := eqI) (sum := sumIts) (f := 36) (fn := Tryz.f36) (by kernel_rfl) (by kernel_rfl) (by kernel_rfl) (by kernel_rfl) (by kernel_rfl) (by kernel_rfl) (by kernel_rfl) (by kernel_rfl) (ok := fun _ => True) (fun a b _ i K h => Eq.mpr (vcIts a b i a.length K) h) (fun vs bs K hs => ?_) a b none (fun _ Q h => Eq.mpr (vcItsF a b Q) h)
    unfold sumIts at hs
    split at hs
    · exact ⟨_, _, _, _, _, trivial, rfl, rfl, hs⟩
    · exact hs.elim
  · cases h
end Go.Proofs.YtnhipiedjekkpaaGreatDoor.AX
end
section
namespace Go.Proofs.YtnhipiedjekkpaaGreatDoor.AXP
open Go Go.Proofs.YtnhipiedjekkpaaGreatDoor.AX
mutual
def eqNd : Nd → Nd → Bool
  | ⟨k, s, n, a, t, c⟩, ⟨k', s', n', a', t', c'⟩ => k == k' && s == s' && eqS n n' && eqS t t' && eql eqAt a a' && eqNds c c'
def eqNds : List Nd → List Nd → Bool
  | [], [] => true
  | x :: a, y :: b => eqNd x y && eqNds a b
  | _, _ => false
end
theorem eqNds_eql : ∀ {a b : List Nd}, eqNds a b = eql eqNd a b
  | [], [] => by simp [eqNds, eql]
  | [], _ :: _ => by simp [eqNds, eql]
  | _ :: _, [] => by simp [eqNds, eql]
  | x :: a, y :: b => by simp only [eqNds, eql, eqNds_eql (a := a)]
noncomputable def szNds (l : List Nd) : Nat := SizeOf.sizeOf l
theorem szNds_kids {l : List Nd} {i : Nat} (h : i < l.length) : szNds l[i].kids < szNds l := by
  have h1 : SizeOf.sizeOf l[i] < SizeOf.sizeOf l := List.sizeOf_lt_of_mem (List.getElem_mem h)
  have h2 : SizeOf.sizeOf l[i].kids < SizeOf.sizeOf l[i] := by cases l[i]; simp; omega
  exact Nat.lt_trans h2 h1
end Go.Proofs.YtnhipiedjekkpaaGreatDoor.AXP
namespace Go.Proofs.YtnhipiedjekkpaaGreatDoor.AX
open Go AXP
noncomputable def conNodesLt (k : Nat) : Con := fun args hp => match args, hp with
  | [x, y], [] => (asNodes x).bind fun a => (asNodes y).bind fun b => some { pre := some (szNds a < k), res := .bool (eql eqNd a b) }
  | _, _ => none
noncomputable def conNode (k : Nat) : Con := fun args hp => match args, hp with
  | [.agg x, .agg y], [] => (toNd x).bind fun a => (toNd y).bind fun b => some { pre := some (szNds a.kids < k), res := .bool (eqNd a b) }
  | _, _ => none
noncomputable def cxNode (k : Nat) : Cx := cxT (tabLook [(75, conNodesLt k), (74, conAts)])
noncomputable def cxNodes (k : Nat) : Cx := cxT (tabLook [(37, conNode k)])
noncomputable def sumNds (k : Nat) (vs : List AV) (bs : List Blk) (K : Ex → List AV → List Blk → Prop) : Prop :=
  match vs, bs with
  | [.row .node a, .row .node b, .row .node c, .int .i64 m, .int .i64 i], [] => Rq (szNds a < k + 1) (sumBeg .node eqNd a b c m i K)
  | _, _ => False
end Go.Proofs.YtnhipiedjekkpaaGreatDoor.AX
end
section
namespace Go.Proofs.YtnhipiedjekkpaaGreatDoor.AXP
open Go Go.Proofs.YtnhipiedjekkpaaGreatDoor.AX
theorem eqS_iff {a b : ByteArray} : eqS a b = true ↔ a = b := by
  unfold eqS
  rw [beq_iff_eq]
  constructor
  · intro h
    have h2 : a.data.toList = b.data.toList := by
      have ha : ∀ c : ByteArray, c.toList = c.data.toList := ByteArray.toList_eq
      rw [ha, ha] at h; exact h
    cases a; cases b
    congr 1
    exact Array.toList_inj.1 h2
  · intro h; rw [h]
theorem eql_iff {α : Type} {f : α → α → Bool} (hf : ∀ x y, f x y = true ↔ x = y) : ∀ {a b : List α}, eql f a b = true ↔ a = b
  | [], [] => by simp [eql]
  | [], _ :: _ => by simp [eql]
  | _ :: _, [] => by simp [eql]
  | x :: a, y :: b => by rw [eql, Bool.and_eq_true, hf, eql_iff hf, List.cons.injEq]
theorem eqAt_iff (x y : At) : eqAt x y = true ↔ x = y := by
  obtain ⟨x1, x2⟩ := x
  obtain ⟨y1, y2⟩ := y
  unfold eqAt
  rw [Bool.and_eq_true, eqS_iff, eqS_iff]
  simp
mutual
theorem eqNd_iff : ∀ (a b : Nd), eqNd a b = true ↔ a = b
  | ⟨k, s, n, a, t, c⟩, ⟨k', s', n', a', t', c'⟩ => by
    rw [eqNd]
    simp only [Bool.and_eq_true, eqS_iff, eql_iff eqAt_iff, eqNds_iff c c', Nd.mk.injEq, beq_iff_eq]
    constructor
    · rintro ⟨⟨⟨⟨⟨h1, h2⟩, h3⟩, h4⟩, h5⟩, h6⟩; exact ⟨h1, h2, h3, h5, h4, h6⟩
    · rintro ⟨h1, h2, h3, h5, h4, h6⟩; exact ⟨⟨⟨⟨⟨h1, h2⟩, h3⟩, h4⟩, h5⟩, h6⟩
theorem eqNds_iff : ∀ (a b : List Nd), eqNds a b = true ↔ a = b
  | [], [] => by rw [eqNds]; simp
  | [], _ :: _ => by simp [eqNds]
  | _ :: _, [] => by simp [eqNds]
  | x :: a, y :: b => by rw [eqNds, Bool.and_eq_true, eqNd_iff x y, eqNds_iff a b, List.cons.injEq]
end
theorem eqS_self (a : ByteArray) : eqS a a = true := by unfold eqS; simp
theorem eql_self {α : Type} {f : α → α → Bool} (h : ∀ x, f x x = true) : ∀ l : List α, eql f l l = true
  | [] => rfl
  | x :: l => by rw [eql, h, eql_self h l]; rfl
theorem eqAt_self (x : At) : eqAt x x = true := by unfold eqAt; rw [eqS_self, eqS_self]; rfl
theorem eqI_self (x : Int) : eqI x x = true := by unfold eqI; simp
mutual
theorem eqNd_self : ∀ n : Nd, eqNd n n = true
  | ⟨k, s, n, a, t, c⟩ => by rw [eqNd, eqS_self, eqS_self, eql_self eqAt_self, eqNds_self c]; simp
theorem eqNds_self : ∀ l : List Nd, eqNds l l = true
  | [] => by rw [eqNds]
  | x :: l => by rw [eqNds, eqNd_self x, eqNds_self l]; rfl
end
end Go.Proofs.YtnhipiedjekkpaaGreatDoor.AXP
end
section
namespace Go.Proofs.YtnhipiedjekkpaaGreatDoor.AXP
open Go Go.Proofs.YtnhipiedjekkpaaGreatDoor.AX
theorem u8c_all : ∀ n : Fin 256, contB (n.val : Int) = ct (n.val : Int) := by decide +kernel
theorem contB_eq {x : Int} (h0 : 0 ≤ x) (h1 : x < 256) : contB x = ct x := by
  obtain ⟨n, rfl⟩ := Int.eq_ofNat_of_zero_le h0
  exact u8c_all ⟨n, by omega⟩
theorem u8m_all : ∀ n : Fin 256, IntKind.i64.wrap (IntKind.u8.wrap (BitVec.ofInt 8 (n.val : Int) &&& BitVec.ofInt 8 63).toNat) = (n.val : Int) % 64 := by decide +kernel
theorem goC_eq {c x : Int} (hc0 : 0 ≤ c) (hc1 : c < 4294967296) (h0 : 0 ≤ x) (h1 : x < 256) : goC c x = c * 64 + x % 64 := by
  have e1 : IntKind.i64.wrap (IntKind.u8.wrap (BitVec.ofInt 8 x &&& BitVec.ofInt 8 63).toNat) = x % 64 := by
    obtain ⟨n, rfl⟩ := Int.eq_ofNat_of_zero_le h0
    exact u8m_all ⟨n, by omega⟩
  have e2 : IntKind.i64.wrap (c * 2 ^ (min (Int.toNat 6) 64)) = c * 64 := by
    show IntKind.i64.wrap (c * 64) = c * 64
    rw [wrap_id'] <;> omega
  unfold goC
  rw [e1, e2]
  exact i64_or6 hc0 hc1 (by omega) (by omega)
theorem byteA_range (s : ByteArray) (i : Nat) : 0 ≤ byteA s i ∧ byteA s i < 256 := by
  unfold byteA
  have := UInt8.toNat_lt (s.get! i)
  have : (s.get! i).toNat < 256 := this
  omega
theorem bl_B {s : ByteArray} {i : Nat} (h : i < s.size) : (bl s).getD i (-1) = byteA s i := bl_at h
theorem bl_no {s : ByteArray} {i : Nat} (h : s.size ≤ i) : (bl s).getD i (-1) = -1 := getD_lt (by rw [bl_length]; exact h)
def hdU (n : Int) : Int := if n = 1 then 0 else if n = 2 then 192 else if n = 3 then 224 else 240
def frstS (s : ByteArray) : Int × Int :=
  if lng (byteA s 0) = 0 ∨ lng (byteA s 0) > s.size then (65533, 1)
  else if allCt s ((lng (byteA s 0)).toNat - 1) 1 = true then
    (if isC (accC s ((lng (byteA s 0)).toNat - 1) 1 (byteA s 0 - hdU (lng (byteA s 0)))) = true ∧ least (lng (byteA s 0)) ≤ accC s ((lng (byteA s 0)).toNat - 1) 1 (byteA s 0 - hdU (lng (byteA s 0)))
      then (accC s ((lng (byteA s 0)).toNat - 1) 1 (byteA s 0 - hdU (lng (byteA s 0))), lng (byteA s 0)) else (65533, 1)) else (65533, 1)
theorem lng_range (b : Int) : lng b = 0 ∨ lng b = 1 ∨ lng b = 2 ∨ lng b = 3 ∨ lng b = 4 := by unfold lng; repeat' split <;> omega
theorem first_eq {s : ByteArray} (h0 : 0 < s.size) : frstS s = ((uDecL (bl s)).1, (uDecL (bl s)).2.1) := by
  have r0 := byteA_range s 0
  have r1 := byteA_range s 1
  have r2 := byteA_range s 2
  have r3 := byteA_range s 3
  unfold frstS uDecL uDec
  rw [bl_B h0]
  generalize hx0 : byteA s 0 = x0 at *
  by_cases a1 : x0 < 128
  · have e : lng x0 = 1 := by unfold lng; rw [if_pos a1]
    rw [e, if_neg (show ¬ ((1 : Int) = 0 ∨ (1 : Int) > s.size) by omega), if_pos a1]
    show (if true = true then (if isC (x0 - 0) = true ∧ (0 : Int) ≤ x0 - 0 then (x0 - 0, (1 : Int)) else (65533, 1)) else _) = _
    rw [if_pos rfl, Int.sub_zero, if_pos ⟨isC_iff.2 (by omega), r0.1⟩]
  rw [if_neg a1]
  by_cases a2 : x0 < 192
  · have e : lng x0 = 0 := by unfold lng; rw [if_neg a1, if_pos a2]
    rw [e, if_pos (.inl rfl), if_pos a2]; rfl
  rw [if_neg a2]
  by_cases a3 : x0 < 224
  · have e : lng x0 = 2 := by unfold lng; rw [if_neg a1, if_neg a2, if_pos a3]
    rw [e, if_pos a3]
    by_cases z : s.size < 2
    · rw [if_pos (.inr (by omega)), bl_no (by omega), if_neg ct_m1]; rfl
    rw [if_neg (show ¬ ((2 : Int) = 0 ∨ (2 : Int) > s.size) by omega), bl_B (i := 1) (by omega)]
    show (if (contB (byteA s 1) && true) = true then (if isC (goC (x0 - 192) (byteA s 1)) = true ∧ (128 : Int) ≤ goC (x0 - 192) (byteA s 1) then (goC (x0 - 192) (byteA s 1), (2 : Int)) else (65533, 1)) else (65533, 1)) = _
    rw [contB_eq r1.1 r1.2, goC_eq (by omega) (by omega) r1.1 r1.2, Bool.and_true]
    by_cases c1 : ct (byteA s 1) = true
    · have c1' := ct_iff.1 c1
      rw [if_pos c1, if_pos c1]
      by_cases q : 128 ≤ (x0 - 192) * 64 + byteA s 1 % 64
      · rw [if_pos q, if_pos ⟨isC_iff.2 (by omega), q⟩]
      · rw [if_neg q, if_neg (fun e => q e.2)]; rfl
    · rw [if_neg c1, if_neg c1]; rfl
  rw [if_neg a3]
  by_cases a4 : x0 < 240
  · have e : lng x0 = 3 := by unfold lng; rw [if_neg a1, if_neg a2, if_neg a3, if_pos a4]
    rw [e, if_pos a4]
    by_cases z : s.size < 3
    · rw [if_pos (.inr (by omega)), bl_no (i := 2) (by omega), if_neg ct_m1, ite_self]; rfl
    rw [if_neg (show ¬ ((3 : Int) = 0 ∨ (3 : Int) > s.size) by omega), bl_B (i := 1) (by omega), bl_B (i := 2) (by omega)]
    show (if (contB (byteA s 1) && (contB (byteA s 2) && true)) = true then (if isC (goC (goC (x0 - 224) (byteA s 1)) (byteA s 2)) = true ∧ (2048 : Int) ≤ goC (goC (x0 - 224) (byteA s 1)) (byteA s 2) then (goC (goC (x0 - 224) (byteA s 1)) (byteA s 2), (3 : Int)) else (65533, 1)) else (65533, 1)) = _
    rw [contB_eq r1.1 r1.2, contB_eq r2.1 r2.2, goC_eq (c := x0 - 224) (by omega) (by omega) r1.1 r1.2, goC_eq (by omega) (by omega) r2.1 r2.2, Bool.and_true]
    by_cases c1 : ct (byteA s 1) = true
    · have c1' := ct_iff.1 c1
      rw [if_pos c1, c1, Bool.true_and]
      by_cases c2 : ct (byteA s 2) = true
      · have c2' := ct_iff.1 c2
        rw [if_pos c2, if_pos c2]
        by_cases q : isC (((x0 - 224) * 64 + byteA s 1 % 64) * 64 + byteA s 2 % 64) = true ∧ 2048 ≤ ((x0 - 224) * 64 + byteA s 1 % 64) * 64 + byteA s 2 % 64
        · rw [if_pos q, if_pos q]
        · rw [if_neg q, if_neg q]; rfl
      · rw [if_neg c2, if_neg c2]; rfl
    · have c1' : ct (byteA s 1) = false := by simpa using c1
      rw [if_neg c1, c1', Bool.false_and, if_neg (by decide)]; rfl
  rw [if_neg a4]
  by_cases a5 : x0 < 248
  · have e : lng x0 = 4 := by unfold lng; rw [if_neg a1, if_neg a2, if_neg a3, if_neg a4, if_pos a5]
    rw [e, if_pos a5]
    by_cases z : s.size < 4
    · rw [if_pos (.inr (by omega)), bl_no (i := 3) (by omega), if_neg ct_m1, ite_self, ite_self]; rfl
    rw [if_neg (show ¬ ((4 : Int) = 0 ∨ (4 : Int) > s.size) by omega), bl_B (i := 1) (by omega), bl_B (i := 2) (by omega), bl_B (i := 3) (by omega)]
    show (if (contB (byteA s 1) && (contB (byteA s 2) && (contB (byteA s 3) && true))) = true then (if isC (goC (goC (goC (x0 - 240) (byteA s 1)) (byteA s 2)) (byteA s 3)) = true ∧ (65536 : Int) ≤ goC (goC (goC (x0 - 240) (byteA s 1)) (byteA s 2)) (byteA s 3) then (goC (goC (goC (x0 - 240) (byteA s 1)) (byteA s 2)) (byteA s 3), (4 : Int)) else (65533, 1)) else (65533, 1)) = _
    rw [contB_eq r1.1 r1.2, contB_eq r2.1 r2.2, contB_eq r3.1 r3.2, goC_eq (c := x0 - 240) (by omega) (by omega) r1.1 r1.2, goC_eq (c := (x0 - 240) * 64 + byteA s 1 % 64) (by omega) (by omega) r2.1 r2.2, goC_eq (by omega) (by omega) r3.1 r3.2, Bool.and_true]
    by_cases c1 : ct (byteA s 1) = true
    · rw [if_pos c1, c1, Bool.true_and]
      by_cases c2 : ct (byteA s 2) = true
      · rw [if_pos c2, c2, Bool.true_and]
        by_cases c3 : ct (byteA s 3) = true
        · rw [if_pos c3, if_pos c3]
          by_cases q : isC ((((x0 - 240) * 64 + byteA s 1 % 64) * 64 + byteA s 2 % 64) * 64 + byteA s 3 % 64) = true ∧ 65536 ≤ (((x0 - 240) * 64 + byteA s 1 % 64) * 64 + byteA s 2 % 64) * 64 + byteA s 3 % 64
          · rw [if_pos q, if_pos q]
          · rw [if_neg q, if_neg q]; rfl
        · rw [if_neg c3, if_neg c3]; rfl
      · have c2' : ct (byteA s 2) = false := by simpa using c2
        rw [if_neg c2, c2', Bool.false_and, if_neg (by decide)]; rfl
    · have c1' : ct (byteA s 1) = false := by simpa using c1
      rw [if_neg c1, c1', Bool.false_and, if_neg (by decide)]; rfl
  · have e : lng x0 = 0 := by unfold lng; rw [if_neg a1, if_neg a2, if_neg a3, if_neg a4, if_neg a5]
    rw [e, if_pos (.inl rfl), if_neg a5]; rfl
theorem uDec_n {l : List Int} (h : l ≠ []) : 1 ≤ (uDecL l).2.1 ∧ (uDecL l).2.1 ≤ l.length ∧ ((uDecL l).2.2 = false ↔ ((uDecL l).1 = 65533 ∧ (uDecL l).2.1 = 1)) := by
  have hl : 1 ≤ l.length := by cases l with | nil => exact absurd rfl h | cons _ _ => simp
  have L : ∀ i, ct (l.getD i (-1)) = true → i < l.length := fun i hi => by
    rcases Nat.lt_or_ge i l.length with h' | h'
    · exact h'
    · rw [getD_lt h'] at hi; exact absurd hi ct_m1
  have bad : 1 ≤ uBad.2.1 ∧ uBad.2.1 ≤ (l.length : Int) ∧ (uBad.2.2 = false ↔ (uBad.1 = 65533 ∧ uBad.2.1 = 1)) := ⟨by decide, by show (1 : Int) ≤ _; omega, by decide⟩
  unfold uDecL uDec
  split
  · rename_i h1
    refine ⟨by show (1 : Int) ≤ 1; decide, by show (1 : Int) ≤ _; omega, ⟨fun e => (nomatch e), fun e => ?_⟩⟩
    have := e.1; dsimp only at this; omega
  split
  · exact bad
  split
  · split
    · rename_i c1
      have := L 1 c1
      split
      · exact ⟨by show (1 : Int) ≤ 2; decide, by show (2 : Int) ≤ _; omega, ⟨fun e => (nomatch e), fun e => absurd e.2 (show ¬ (2 : Int) = 1 by decide)⟩⟩
      · exact bad
    · exact bad
  split
  · split
    · split
      · rename_i c2
        have := L 2 c2
        split
        · exact ⟨by show (1 : Int) ≤ 3; decide, by show (3 : Int) ≤ _; omega, ⟨fun e => (nomatch e), fun e => absurd e.2 (show ¬ (3 : Int) = 1 by decide)⟩⟩
        · exact bad
      · exact bad
    · exact bad
  split
  · split
    · split
      · split
        · rename_i c3
          have := L 3 c3
          split
          · exact ⟨by show (1 : Int) ≤ 4; decide, by show (4 : Int) ≤ _; omega, ⟨fun e => (nomatch e), fun e => absurd e.2 (show ¬ (4 : Int) = 1 by decide)⟩⟩
          · exact bad
        · exact bad
      · exact bad
    · exact bad
  · exact bad
theorem bl_ne {s : ByteArray} (h : 0 < s.size) : bl s ≠ [] := fun e => by have := bl_length s; rw [e] at this; simp at this; omega
theorem uAll_fuel : ∀ (f g : Nat) (l : List Int), l.length ≤ f → l.length ≤ g → uAll f l = uAll g l
  | 0, g, l, hf, _ => by
    obtain rfl := List.eq_nil_of_length_eq_zero (Nat.le_zero.1 hf)
    cases g with
    | zero => rfl
    | succ g => rw [uAll, uAll, if_pos rfl]
  | f + 1, 0, l, _, hg => by
    obtain rfl := List.eq_nil_of_length_eq_zero (Nat.le_zero.1 hg)
    rw [uAll, uAll, if_pos rfl]
  | f + 1, g + 1, l, hf, hg => by
    rw [uAll, uAll]
    split
    · rfl
    · rename_i h
      have hn := uDec_n h
      have e := uAll_fuel f g (l.drop (uDecL l).2.1.toNat) (by rw [List.length_drop]; omega) (by rw [List.length_drop]; omega)
      rw [e]
theorem strange_eq {s : ByteArray} (h : 0 < s.size) : strangeB s = !(uDecL (bl s)).2.2 := by
  have hn := (uDec_n (bl_ne h)).2.2
  unfold strangeB fstC fstN
  rw [if_neg (by omega), if_neg (by omega)]
  cases hb : (uDecL (bl s)).2.2 with
  | false =>
    obtain ⟨h1, h2⟩ := hn.1 hb
    rw [h1, h2]; rfl
  | true =>
    rw [Bool.not_true, Bool.and_eq_false_iff]
    by_cases h1 : (uDecL (bl s)).1 = 65533
    · right
      by_cases h2 : (uDecL (bl s)).2.1 = 1
      · rw [hn.2 ⟨h1, h2⟩] at hb; cases hb
      · simpa using h2
    · left; simpa using h1
theorem rightU_nil {s : ByteArray} (h : s.size = 0) : rightU s = true := by unfold rightU; rw [h]; rfl
theorem rightU_step {s : ByteArray} (h : 0 < s.size) : rightU s = ((uDecL (bl s)).2.2 && rightU (s.extract (fstN s).toNat s.size)) := by
  have hl := bl_length s
  have hn := uDec_n (bl_ne h)
  unfold rightU
  obtain ⟨f, hf⟩ : ∃ f, s.size = f + 1 := ⟨s.size - 1, by omega⟩
  have e : fstN s = (uDecL (bl s)).2.1 := by unfold fstN; rw [if_neg (by omega)]
  rw [e, bl_tail, show (uAll s.size (bl s)) = uAll (f + 1) (bl s) by rw [hf], uAll, if_neg (bl_ne h)]
  dsimp only
  have hx : (s.extract (uDecL (bl s)).2.1.toNat s.size).size = s.size - (uDecL (bl s)).2.1.toNat := by rw [ByteArray.size_extract]; omega
  rw [hx, uAll_fuel f (s.size - (uDecL (bl s)).2.1.toNat) _ (by rw [List.length_drop]; omega) (by rw [List.length_drop]; omega)]
theorem smI_eq (b : UInt8) : smI (b.toNat : Int) = smallB b := by
  unfold smI smallB
  rw [Bool.eq_iff_iff]
  simp only [Bool.and_eq_true, decide_eq_true_eq]
  omega
theorem kb_get {s : ByteArray} {i : Nat} (h : i < s.size) : (kb s)[i]? = some (s.get! i) := by
  have hi : i < s.data.toList.length := by rw [Array.length_toList]; exact h
  have h2 : i < s.data.size := h
  unfold kb
  rw [List.getElem?_eq_getElem hi]
  congr 1
  show s.data.toList[i] = s.data[i]!
  rw [Array.getElem_toList, getElem!_pos s.data i h2]
theorem allP_nm (s : ByteArray) : allP nm1 s = (kb s).all fun b => smallB b || (decide (48 ≤ b.toNat) && decide (b.toNat ≤ 57)) || b == 45 || b == 58 := by
  unfold allP
  congr 1
  funext b
  unfold nm1
  rw [smI_eq]
  have h1 : (decide ((48 : Int) ≤ (b.toNat : Int)) && decide ((b.toNat : Int) ≤ 57)) = (decide (48 ≤ b.toNat) && decide (b.toNat ≤ 57)) := by
    rw [Bool.eq_iff_iff]; simp only [Bool.and_eq_true, decide_eq_true_eq]; omega
  have h2 : ∀ n : UInt8, (((b.toNat : Nat) : Int) == ((n.toNat : Nat) : Int)) = (b == n) := fun n => by
    rw [Bool.eq_iff_iff]; simp only [beq_iff_eq]
    exact ⟨fun h => UInt8.toNat.inj (by omega), fun h => by rw [h]⟩
  have h3 := h2 45
  have h4 := h2 58
  rw [h1]
  show (_ || _ || (((b.toNat : Nat) : Int) == (((45 : UInt8).toNat : Nat) : Int)) || (((b.toNat : Nat) : Int) == (((58 : UInt8).toNat : Nat) : Int))) = _
  rw [h3, h4]
theorem allP_gd (s : ByteArray) : allP gd1 s = (kb s).all fun b => b != 0 && b != 13 := by
  unfold allP
  congr 1
  funext b
  unfold gd1
  have h2 : ∀ n : UInt8, (((b.toNat : Nat) : Int) != ((n.toNat : Nat) : Int)) = (b != n) := fun n => by
    rw [Bool.eq_iff_iff]; simp only [bne_iff_ne, ne_eq]
    exact ⟨fun h e => h (by rw [e]), fun h e => h (UInt8.toNat.inj (by omega))⟩
  have h3 := h2 0
  have h4 := h2 13
  show ((((b.toNat : Nat) : Int) != (((0 : UInt8).toNat : Nat) : Int)) && (((b.toNat : Nat) : Int) != (((13 : UInt8).toNat : Nat) : Int))) = _
  rw [h3, h4]
theorem eqS_nil {s : ByteArray} : eqS s ⟨#[]⟩ = true ↔ s.size = 0 := by
  rw [eqS_iff]
  constructor
  · rintro rfl; rfl
  · intro h
    have : kb s = kb ⟨#[]⟩ := List.eq_nil_of_length_eq_zero (by rw [kb_size]; exact h)
    exact kb_inj this
end Go.Proofs.YtnhipiedjekkpaaGreatDoor.AXP
namespace Go.Proofs.YtnhipiedjekkpaaGreatDoor.AX
open Go AXP
set_option maxRecDepth 100000
theorem isU_holds : Holds 158 conIsU := conP_holds fun c => by
  rcases (show ∃ w : Int, w = c from ⟨_, rfl⟩) with ⟨c, rfl⟩
  refine fun_meets0 tok0 [] (by kernel_rfl) (by kernel_rfl) fun _ => Eq.mpr (vcIsUF c _) ?_
  have e : ∀ b, isC c = b → [AV.bool b] = compsOf (.bool (isC c)) := fun b h => by rw [h]; rfl
  refine ⟨fun h1 => ⟨fun h2 => ⟨fun h3 => qfin rfl (e _ ?_) rfl rfl, fun h3 => qfin rfl (e _ ?_) rfl rfl⟩, fun h2 => qfin rfl (e _ ?_) rfl rfl⟩, fun h1 => qfin rfl (e _ ?_) rfl rfl⟩
  · simp only [decide_eq_true_eq] at h1 h2 h3
    exact isC_iff.2 (by omega)
  · simp only [decide_eq_true_eq, decide_eq_false_iff_not] at h1 h2 h3
    rw [Bool.eq_iff_iff, isC_iff, decide_eq_true_eq]; omega
  · simp only [decide_eq_true_eq, decide_eq_false_iff_not] at h1 h2
    rw [Bool.eq_false_iff, ne_eq, isC_iff]; omega
  · simp only [decide_eq_false_iff_not] at h1
    rw [Bool.eq_false_iff, ne_eq, isC_iff]; omega
theorem longU_holds : Holds 157 conLongU := conP_holds fun b => by
  rcases (show ∃ w : Int, w = b from ⟨_, rfl⟩) with ⟨b, rfl⟩
  refine fun_meets0 tok0 [] (by kernel_rfl) (by kernel_rfl) fun hpre => Eq.mpr (vcLongUF b _) ?_
  obtain ⟨p0, p1⟩ : 0 ≤ b ∧ b < 256 := hpre _ rfl
  have e : ∀ n, lng b = n → [AV.int .i64 n] = compsOf (.int .i64 (lng b)) := fun n h => by rw [h]; rfl
  refine ⟨fun h1 => qfin rfl (e _ ?_) rfl rfl, fun h1 => ⟨fun h2 => qfin rfl (e _ ?_) rfl rfl, fun h2 => ⟨fun h3 => qfin rfl (e _ ?_) rfl rfl, fun h3 => ⟨fun h4 => qfin rfl (e _ ?_) rfl rfl, fun h4 => ⟨fun h5 => qfin rfl (e _ ?_) rfl rfl, fun h5 => qfin rfl (e _ ?_) rfl rfl⟩⟩⟩⟩⟩ <;>
    (simp only [decide_eq_true_eq, decide_eq_false_iff_not] at *; unfold lng; repeat' split) <;> omega
theorem first_sum : SumOK cxFirst (LL Tryz.f148 [lsFirst]) Tryz.f148.ntmps (loopAt Tryz.f148 0).1 (loopAt Tryz.f148 0).2 lsFirst := by
  intro vs bs K hs
  unfold lsFirst at hs
  simp only at hs
  split at hs
  case h_2 => exact hs.elim
  rename_i s n c i
  obtain ⟨⟨rfl, h1, h4, hsz⟩, h⟩ := hs
  obtain ⟨m, hm⟩ : ∃ m, n.toNat - 1 = m := ⟨_, rfl⟩
  rw [hm] at h
  refine sum_rec (σ := Nat × Int) (fun q => [.str s, .int .i64 n, .int .i64 q.2, .int .i64 (q.1 : Nat)]) (fun _ => [])
    (fun q => 1 ≤ q.1 ∧ (q.1 : Int) ≤ n ∧ Br (allCt s (n.toNat - q.1) q.1) (K (.exit 0) [.str s, .int .i64 n, .int .i64 (accC s (n.toNat - q.1) q.1 q.2), .any, .any] []) (K .ret [.str s, .int .i64 n, .int .i64 (stopC s (n.toNat - q.1) q.1 q.2), .int .i64 65533, .int .i64 1] []))
    (fun q => n.toNat - q.1) ?_ (1, c) ⟨Nat.le_refl _, h1, by rw [hm]; exact h⟩
  rintro ⟨i, c⟩ ⟨hi, hin, hP⟩ R hR
  dsimp only at hi hin hP hR ⊢
  refine Eq.mpr (vcFirstB s n c i _) ⟨fun h2 => ?_, fun h2 => ?_⟩
  · have h2 : (i : Int) < n := of_decide_eq_true h2
    obtain ⟨f, hf⟩ : ∃ f, n.toNat - i = f + 1 := ⟨n.toNat - i - 1, by omega⟩
    rw [hf, allCt, accC, stopC] at hP
    have hw : IntKind.i64.wrap ((i : Int) + 1) = ((i + 1 : Nat) : Int) := by rw [wrap_id'] <;> omega
    refine Rq.mk ⟨by omega, by omega⟩ ⟨fun h3 => ?_, fun h3 => Rq.mk (by decide) (Rq.mk ⟨by omega, by omega⟩ ?_)⟩
    · have h3 : contB (byteA s i) = false := by unfold contB byteA; rw [Bool.not_eq_false']; exact h3
      have := hP.no (by rw [h3]; rfl)
      rw [if_neg (by rw [h3]; decide)] at this
      exact this
    · have h3 : contB (byteA s i) = true := by unfold contB byteA; rw [Bool.not_eq_true']; exact h3
      rw [h3, Bool.true_and, if_pos rfl] at hP
      rw [hw]
      exact hR (i + 1, goC c (byteA s i)) ⟨by omega, by omega, by rw [show n.toNat - (i + 1) = f by omega]; exact hP⟩ (by dsimp only; omega)
  · have h2 : ¬ (i : Int) < n := of_decide_eq_false h2
    rw [show n.toNat - i = 0 by omega] at hP
    exact hP.yes rfl
theorem rd_head2 (n : Int) (h : n = 1 ∨ n = 2 ∨ n = 3 ∨ n = 4) : (rd Ty.two [Tw.mk 0 0, Tw.mk 0 0, Tw.mk 192 128, Tw.mk 224 2048, Tw.mk 240 65536] n).1 = hdU n ∧ (rd Ty.two [Tw.mk 0 0, Tw.mk 0 0, Tw.mk 192 128, Tw.mk 224 2048, Tw.mk 240 65536] n).2 = least n := by
  rcases h with rfl | rfl | rfl | rfl <;> exact ⟨rfl, rfl⟩
theorem firstU_holds : Holds 148 conFirstU := conP_holds fun s => by
  rcases (show ∃ w : ByteArray, w = s from ⟨_, rfl⟩) with ⟨s, rfl⟩
  refine fun_meets1 (AllH.tok (.cons isU_holds (by kernel_rfl) (.cons longU_holds (by kernel_rfl) .nil))) [] lsFirst (by kernel_rfl) (by kernel_rfl) first_sum fun _ => Eq.mpr (vcFirstF s _) ?_
  refine ⟨fun h0 => qfin rfl ?_ rfl rfl, fun h0 => ?_⟩
  · have h0 := eqS_nil.1 h0
    show _ = [AV.int .i64 (fstC s), AV.int .i64 (fstN s)]
    unfold fstC fstN; rw [if_pos h0, if_pos h0]
  have h0 : 0 < s.size := by
    rcases Nat.eq_zero_or_pos s.size with h | h
    · rw [eqS_nil.2 h] at h0; cases h0
    · exact h
  have hr := byteA_range s 0
  have key : ∀ c n, frstS s = (c, n) → [AV.int .i64 c, AV.int .i64 n] = compsOf (.tup [.int .i64 (fstC s), .int .i64 (fstN s)]) := fun c n h => by
    rw [first_eq h0] at h
    injection h with e1 e2
    show _ = [AV.int .i64 (fstC s), AV.int .i64 (fstN s)]
    unfold fstC fstN; rw [if_neg (by omega), if_neg (by omega), e1, e2]
  have eb : ((s.get! (Int.toNat 0)).toNat : Int) = byteA s 0 := rfl
  rw [eb]
  unfold frstS at key
  have hln := lng_range (byteA s 0)
  generalize lng (byteA s 0) = n at hln key ⊢
  generalize byteA s 0 = x at hr key ⊢
  refine Rq.mk ⟨by omega, by omega⟩ (Rq.mk hr ⟨fun h1 => qfin rfl (key _ _ ?_) rfl rfl, fun h1 => ⟨fun _ => ⟨fun h2 => qfin rfl (key _ _ ?_) rfl rfl, fun h2 => ?_⟩⟩⟩)
  · rw [if_pos (.inl (by simpa using h1))]
  · rw [if_pos (.inr (of_decide_eq_true h2))]
  have h1 : ¬ n = 0 := by simpa using h1
  have h2 : ¬ n > (s.size : Int) := of_decide_eq_false h2
  have hn : n = 1 ∨ n = 2 ∨ n = 3 ∨ n = 4 := by omega
  obtain ⟨e1, e2⟩ := rd_head2 n hn
  have hd : 0 ≤ hdU n ∧ hdU n ≤ 240 := by rcases hn with rfl | rfl | rfl | rfl <;> decide
  have ew : IntKind.i64.wrap (IntKind.i64.wrap x - hdU n) = x - hdU n := by
    rw [wrap_id' (i := x) (by omega) (by omega), wrap_id' (by omega) (by omega)]
  rw [e1, e2, ew]
  rw [if_neg (by omega)] at key
  refine Rq.mk ⟨by omega, by omega⟩ (Rq.mk ⟨by omega, by show n < 5; omega⟩ (Rq.mk ⟨rfl, by omega, by omega, by omega⟩ ⟨fun h3 => ⟨fun h4 => qfin rfl (key _ _ ?_) rfl rfl, fun h4 => Rq.mk ⟨by omega, by show n < 5; omega⟩ ⟨fun h5 => qfin rfl (key _ _ ?_) rfl rfl, fun h5 => qfin rfl (key _ _ ?_) rfl rfl⟩⟩, fun h3 => qfin rfl (key _ _ ?_) rfl rfl⟩))
  · have h4 : isC (accC s (n.toNat - 1) 1 (x - hdU n)) = false := by simpa using h4
    rw [if_pos h3, if_neg fun e => by rw [h4] at e; cases e.1]
  · have h5 : accC s (n.toNat - 1) 1 (x - hdU n) < least n := of_decide_eq_true h5
    rw [if_pos h3, if_neg fun e => by omega]
  · have h4 : isC (accC s (n.toNat - 1) 1 (x - hdU n)) = true := by simpa using h4
    have h5 : ¬ accC s (n.toNat - 1) 1 (x - hdU n) < least n := of_decide_eq_false h5
    rw [if_pos h3, if_pos ⟨h4, by omega⟩]
  · rw [if_neg (by rw [h3]; decide)]
theorem strange_holds : Holds 147 conStrange := conP_holds fun s => by
  refine fun_meets0 (AllH.tok (.cons firstU_holds (by kernel_rfl) .nil)) [] (by kernel_rfl) (by kernel_rfl) fun _ => Eq.mpr (vcStrangeF s _) ?_
  refine ⟨fun h => qfin rfl ?_ rfl rfl, fun h => qfin rfl ?_ rfl rfl⟩
  · show [AV.bool _] = [AV.bool (fstC s == 65533 && fstN s == 1)]
    rw [h, Bool.true_and]
  · show [AV.bool _] = [AV.bool (fstC s == 65533 && fstN s == 1)]
    rw [h, Bool.false_and]
theorem right_sum : SumOK cxRight (LL Tryz.f138 [lsRight]) Tryz.f138.ntmps (loopAt Tryz.f138 0).1 (loopAt Tryz.f138 0).2 lsRight := by
  intro vs bs K hs
  unfold lsRight at hs
  simp only at hs
  split at hs
  case h_2 => exact hs.elim
  rename_i s
  refine sum_rec (σ := ByteArray) (fun s => [.str s]) (fun _ => []) (fun s => Br (rightU s) (K (.exit 0) [.any] []) (K .ret [.bool false] [])) (fun s => s.size) ?_ s hs
  intro s hP R hR
  refine Eq.mpr (vcRightB s _) ⟨fun h1 => ?_, fun h1 => ?_⟩
  · have h0 : 0 < s.size := by
      rcases Nat.eq_zero_or_pos s.size with h | h
      · rw [eqS_nil.2 h] at h1; cases h1
      · exact h
    have hn := uDec_n (bl_ne h0)
    rw [bl_length] at hn
    have en : fstN s = (uDecL (bl s)).2.1 := by unfold fstN; rw [if_neg (by omega)]
    rw [rightU_step h0] at hP
    refine ⟨fun h2 => ?_, fun h2 => Rq.mk ⟨by omega, by omega, Int.le_refl _⟩ ?_⟩
    · rw [strange_eq h0, Bool.not_eq_true'] at h2
      exact hP.no (by rw [h2]; rfl)
    · rw [strange_eq h0, Bool.not_eq_false'] at h2
      rw [h2, Bool.true_and] at hP
      exact hR _ hP (by show (s.extract _ _).size < s.size; rw [ByteArray.size_extract, Int.toNat_natCast]; omega)
  · have h1 := eqS_nil.1 (show eqS s ⟨#[]⟩ = true by simpa using h1)
    exact hP.yes (rightU_nil h1)
theorem rightU_holds : Holds 138 conRightU := conP_holds fun s => by
  refine fun_meets1 (AllH.tok (.cons firstU_holds (by kernel_rfl) (.cons strange_holds (by kernel_rfl) .nil))) [] lsRight (by kernel_rfl) (by kernel_rfl) right_sum fun _ => Eq.mpr (vcRightF s _) ?_
  have e : ∀ b, rightU s = b → [AV.bool b] = compsOf (.bool (rightU s)) := fun b h => by rw [h]; rfl
  exact ⟨fun h => qfin rfl (e _ h) rfl rfl, fun h => qfin rfl (e _ h) rfl rfl⟩
theorem smallP_holds : Holds 149 conSmallP := conP_holds fun b => by
  refine fun_meets0 tok0 [] (by kernel_rfl) (by kernel_rfl) fun _ => Eq.mpr (vcSmallF b _) ?_
  refine ⟨fun h => qfin rfl ?_ rfl rfl, fun h => qfin rfl ?_ rfl rfl⟩
  · show [AV.bool _] = [AV.bool (decide ((97 : Int) ≤ b) && decide (b ≤ 122))]
    have h : decide ((97 : Int) ≤ b) = true := h
    rw [h, Bool.true_and]
  · show [AV.bool _] = [AV.bool (decide ((97 : Int) ≤ b) && decide (b ≤ 122))]
    have h : decide ((97 : Int) ≤ b) = false := h
    rw [h, Bool.false_and]
theorem digitC_holds : Holds 151 conDigitC := conP_holds fun b => by
  refine fun_meets0 tok0 [] (by kernel_rfl) (by kernel_rfl) fun _ => Eq.mpr (vcDigitF b _) ?_
  refine ⟨fun h => qfin rfl ?_ rfl rfl, fun h => qfin rfl ?_ rfl rfl⟩
  · show [AV.bool _] = [AV.bool (decide ((48 : Int) ≤ b) && decide (b ≤ 57))]
    have h : decide ((48 : Int) ≤ b) = true := h
    rw [h, Bool.true_and]
  · show [AV.bool _] = [AV.bool (decide ((48 : Int) ≤ b) && decide (b ≤ 57))]
    have h : decide ((48 : Int) ≤ b) = false := h
    rw [h, Bool.false_and]
theorem nm1_holds : Holds 150 conNm1 := conP_holds fun b => by
  refine fun_meets0 (AllH.tok (.cons smallP_holds (by kernel_rfl) (.cons digitC_holds (by kernel_rfl) .nil))) [] (by kernel_rfl) (by kernel_rfl) fun _ => Eq.mpr (vcNm1F b _) ?_
  have e : ∀ v, nm1 b = v → [AV.bool v] = compsOf (.bool (nm1 b)) := fun v h => by rw [h]; rfl
  refine ⟨fun h => qfin rfl (e _ ?_) rfl rfl, fun h => ⟨fun h1 => qfin rfl (e _ ?_) rfl rfl, fun h1 => ⟨fun h2 => qfin rfl (e _ ?_) rfl rfl, fun h2 => qfin rfl (e _ ?_) rfl rfl⟩⟩⟩
  · unfold nm1; rw [h]; rfl
  · unfold nm1; rw [h, h1]; rfl
  · unfold nm1; rw [h, h1, h2]; rfl
  · unfold nm1; rw [h, h1, h2]; rfl
theorem gd1_holds : Holds 140 conGd1 := conP_holds fun b => by
  refine fun_meets0 tok0 [] (by kernel_rfl) (by kernel_rfl) fun _ => Eq.mpr (vcGd1F b _) ?_
  have e : ∀ v, gd1 b = v → [AV.bool v] = compsOf (.bool (gd1 b)) := fun v h => by rw [h]; rfl
  refine ⟨fun h => qfin rfl (e _ ?_) rfl rfl, fun h => qfin rfl (e _ ?_) rfl rfl⟩
  · unfold gd1; rw [h]; rfl
  · unfold gd1; rw [h]; rfl
theorem kb_len (s : ByteArray) : (kb s).length = s.size := kb_size s
theorem allP_take {f : Int → Bool} {s : ByteArray} {i : Nat} (h : i < s.size) : ((kb s).take (i + 1)).all (fun b => f (b.toNat : Int)) = (((kb s).take i).all (fun b => f (b.toNat : Int)) && f ((s.get! i).toNat : Int)) := by
  have hl : i < (kb s).length := by rw [kb_len]; exact h
  have e := kb_get h
  rw [List.getElem?_eq_getElem hl] at e
  injection e with e
  rw [← List.take_append_getElem hl, List.all_append, e]
  simp
theorem allP_no {f : Int → Bool} {s : ByteArray} {i : Nat} (h : i < s.size) (hf : f ((s.get! i).toNat : Int) = false) : allP f s = false := by
  have hl : i < (kb s).length := by rw [kb_len]; exact h
  have e := kb_get h
  rw [List.getElem?_eq_getElem hl] at e
  injection e with e
  unfold allP
  rw [List.all_eq_false]
  exact ⟨_, List.getElem_mem hl, by rw [e, hf]; decide⟩
theorem all_sumG {g : Int → Bool} {cx : Cx} {L : Loops} {n bl : Nat} {c : Code} {f : Nat} {keep left : List (Tmp × Want)} {s : ByteArray} {K : Ex → List AV → List Blk → Prop} (hb : ∀ (i : Nat) (K : Ex → List AV → List Blk → Prop), (i < s.size → (g ((s.get! i).toNat : Int) = false → K .ret [.bool false] []) ∧ (g ((s.get! i).toNat : Int) = true → K .norm [.str s, .fn f [], .int .i64 s.size, .int .i64 ((i + 1 : Nat) : Int)] [])) → (s.size ≤ i → K (.exit 0) [.any] []) →
    bodyA cx L n bl c keep left K [.str s, .fn f [], .int .i64 s.size, .int .i64 (i : Nat)] []) (h : Br (allP g s) (K (.exit 0) [.any] []) (K .ret [.bool false] [])) : ∃ m, roundsA cx L n bl c keep left K m [.str s, .fn f [], .int .i64 s.size, .int .i64 ((0 : Nat) : Int)] [] := by
  refine sum_rec (σ := Nat) (fun i => [.str s, .fn f [], .int .i64 s.size, .int .i64 (i : Nat)]) (fun _ => []) (fun i => i ≤ s.size ∧ ((kb s).take i).all (fun b => g (b.toNat : Int)) = true) (fun i => s.size - i) ?_ 0 ⟨Nat.zero_le _, rfl⟩
  rintro i ⟨hi, ha⟩ R hR
  refine hb i _ (fun hlt => ⟨fun h1 => ?_, fun h1 => ?_⟩) fun hge => ?_
  · exact h.no (allP_no hlt h1)
  · exact hR (i + 1) ⟨hlt, by rw [allP_take hlt, ha, h1]; rfl⟩ (by omega)
  · have : i = s.size := by omega
    subst this
    rw [List.take_of_length_le (by rw [kb_len]; exact Nat.le_refl _)] at ha
    exact h.yes ha
theorem allN_sum : SumOK cxAllP (LL Tryz.f139 [lsAllN]) Tryz.f139.ntmps (loopAt Tryz.f139 0).1 (loopAt Tryz.f139 0).2 lsAllN := by
  intro vs bs K hs
  unfold lsAllN at hs
  simp only at hs
  split at hs
  case h_2 => exact hs.elim
  rename_i s f m i
  obtain ⟨⟨rfl, rfl, rfl, hm⟩, h⟩ := hs
  refine all_sumG (g := nm1) (fun i K h1 h2 => Eq.mpr (vcAllNB s s.size i _) ⟨fun h3 => ?_, fun h3 => ?_⟩) h
  · have h3 : i < s.size := by have := of_decide_eq_true h3; omega
    obtain ⟨g1, g2⟩ := h1 h3
    rw [wrap_succ h3 hm]
    exact Rq.mk ⟨by omega, by omega⟩ ⟨fun h4 => g1 (by simpa using h4), fun h4 => g2 (by simpa using h4)⟩
  · have := of_decide_eq_false h3
    exact h2 (by omega)
theorem allG_sum : SumOK cxAllP (LL Tryz.f139 [lsAllG]) Tryz.f139.ntmps (loopAt Tryz.f139 0).1 (loopAt Tryz.f139 0).2 lsAllG := by
  intro vs bs K hs
  unfold lsAllG at hs
  simp only at hs
  split at hs
  case h_2 => exact hs.elim
  rename_i s f m i
  obtain ⟨⟨rfl, rfl, rfl, hm⟩, h⟩ := hs
  refine all_sumG (g := gd1) (fun i K h1 h2 => Eq.mpr (vcAllGB s s.size i _) ⟨fun h3 => ?_, fun h3 => ?_⟩) h
  · have h3 : i < s.size := by have := of_decide_eq_true h3; omega
    obtain ⟨g1, g2⟩ := h1 h3
    rw [wrap_succ h3 hm]
    exact Rq.mk ⟨by omega, by omega⟩ ⟨fun h4 => g1 (by simpa using h4), fun h4 => g2 (by simpa using h4)⟩
  · have := of_decide_eq_false h3
    exact h2 (by omega)
theorem allN_holds : Holds 139 conAllN := conP_holds fun s _ => by
  refine fun_meets1 (AllH.tok (.cons nm1_holds (by kernel_rfl) (.cons gd1_holds (by kernel_rfl) .nil))) [] lsAllN (by kernel_rfl) (by kernel_rfl) allN_sum fun _ => Eq.mpr (vcAllNF s _) ?_
  have e : ∀ b, allP nm1 s = b → [AV.bool b] = compsOf (.bool (allP nm1 s)) := fun b h => by rw [h]; rfl
  exact ⟨fun hm => Rq.mk ⟨rfl, rfl, rfl, hm⟩ ⟨fun h => qfin rfl (e _ h) rfl rfl, fun h => qfin rfl (e _ h) rfl rfl⟩⟩
theorem allG_holds : Holds 139 conAllG := conP_holds fun s _ => by
  refine fun_meets1 (AllH.tok (.cons nm1_holds (by kernel_rfl) (.cons gd1_holds (by kernel_rfl) .nil))) [] lsAllG (by kernel_rfl) (by kernel_rfl) allG_sum fun _ => Eq.mpr (vcAllGF s _) ?_
  have e : ∀ b, allP gd1 s = b → [AV.bool b] = compsOf (.bool (allP gd1 s)) := fun b h => by rw [h]; rfl
  exact ⟨fun hm => Rq.mk ⟨rfl, rfl, rfl, hm⟩ ⟨fun h => qfin rfl (e _ h) rfl rfl, fun h => qfin rfl (e _ h) rfl rfl⟩⟩
theorem nameP_holds : Holds 141 conNameP := conP_holds fun s => by
  rcases (show ∃ w : ByteArray, w = s from ⟨_, rfl⟩) with ⟨s, rfl⟩
  refine fun_meets0 (AllH.tok (.cons smallP_holds (by kernel_rfl) (.cons allN_holds (by kernel_rfl) .nil))) [] (by kernel_rfl) (by kernel_rfl) fun _ => Eq.mpr (vcNamePF s _) ?_
  have e : ∀ b, nameB s = b → [AV.bool b] = compsOf (.bool (nameB s)) := fun b h => by rw [h]; rfl
  have hf : nameB s = (decide (0 < s.size) && decide (s.size ≤ 24) && smallB ((kb s).getD 0 0) && allP nm1 s) := by unfold nameB; rw [allP_nm]
  refine ⟨fun h => qfin rfl (e _ ?_) rfl rfl, fun h => ⟨fun h1 => ⟨fun _ => qfin rfl (e _ ?_) rfl rfl⟩, fun h1 => ?_⟩⟩
  · rw [hf, eqS_nil.1 h]; rfl
  · have h1 : ¬ s.size ≤ 24 := by have := of_decide_eq_true h1; omega
    rw [hf, decide_eq_false h1, Bool.and_false]; rfl
  · have h0 : 0 < s.size := by
      rcases Nat.eq_zero_or_pos s.size with h' | h'
      · rw [eqS_nil.2 h'] at h; cases h
      · exact h'
    have h1 : s.size ≤ 24 := by have := of_decide_eq_false h1; omega
    have hs : smallB ((kb s).getD 0 0) = smI ((s.get! (Int.toNat 0)).toNat : Int) := by
      rw [smI_eq]
      have := kb_get h0
      rw [List.getD_eq_getElem?_getD, this]; rfl
    rw [decide_eq_true h0, decide_eq_true h1, hs] at hf
    refine Rq.mk ⟨by omega, by omega⟩ ⟨fun _ => ⟨fun h2 => qfin rfl (e _ ?_) rfl rfl, fun h2 => qfin rfl (e _ ?_) rfl rfl⟩⟩
    · rw [hf, show smI ((s.get! (Int.toNat 0)).toNat : Int) = false by simpa using h2]; rfl
    · rw [hf, show smI ((s.get! (Int.toNat 0)).toNat : Int) = true by simpa using h2]; rfl
theorem goodP_holds : Holds 128 conGoodP := conP_holds fun s => by
  refine fun_meets0 (AllH.tok (.cons rightU_holds (by kernel_rfl) (.cons allG_holds (by kernel_rfl) .nil))) [] (by kernel_rfl) (by kernel_rfl) fun _ => Eq.mpr (vcGoodPF s _) ?_
  have hf : goodB s = (rightU s && allP gd1 s) := by unfold goodB; rw [allP_gd]
  refine ⟨fun h => qfin rfl ?_ rfl rfl, fun h => qfin rfl ?_ rfl rfl⟩
  · show [AV.bool _] = [AV.bool (goodB s)]
    rw [hf, h, Bool.true_and]
  · show [AV.bool _] = [AV.bool (goodB s)]
    rw [hf, h, Bool.false_and]
end Go.Proofs.YtnhipiedjekkpaaGreatDoor.AX
end
section
namespace Go.Proofs.YtnhipiedjekkpaaGreatDoor.AXP
open Go Go.Proofs.YtnhipiedjekkpaaGreatDoor.AX
theorem bk_size (l : List UInt8) : (bk l).size = l.length := by rw [← kb_size, kb_bk]
theorem kb_ext (b : ByteArray) (i j : Nat) : kb (b.extract i j) = ((kb b).take j).drop i := by
  unfold kb
  rw [ByteArray.data_extract, Array.toList_extract, List.extract_eq_take_drop, List.drop_take]
theorem ba_nilk (a : ByteArray) : (⟨#[]⟩ : ByteArray) ++ a = a := kb_inj (by rw [kb_app]; rfl)
theorem v256_lt : ∀ (k : Nat) (l : List UInt8), l.length ≤ k → v256 l < 256 ^ l.length
  | 0, l, h => by
    obtain rfl := List.eq_nil_of_length_eq_zero (Nat.le_zero.1 h)
    decide
  | k + 1, l, h => by
    rcases List.eq_nil_or_concat l with rfl | ⟨m, d, rfl⟩
    · decide
    · rw [List.concat_eq_append] at h ⊢
      rw [List.length_append, List.length_cons, List.length_nil] at h
      have := v256_lt k m (by omega)
      have hd := d.toNat_lt
      rw [v256_snoc, List.length_append, List.length_cons, List.length_nil, Nat.pow_succ]
      omega
theorem b256_le6 {n : Nat} (h : n ≤ 1099511627776) : (b256 n).length ≤ 6 := b256_len 6 n (by omega)
theorem u8w {n : Int} (h : 0 ≤ n) : (IntKind.u8.wrap n).toNat = n.toNat % 256 := by rw [IntKind.wrap_u8]; omega
theorem kb_strOf1 (x : Int) : kb (strOf [x]) = [UInt8.ofNat x.toNat] := rfl
theorem dig_step {n : Int} (h0 : 0 ≤ n) (h : n ≠ 0) : bk (b256 (n / 256).toNat) ++ strOf [IntKind.u8.wrap n] = bk (b256 n.toNat) := by
  apply kb_inj
  rw [kb_app, kb_bk, kb_bk, kb_strOf1, u8w h0, b256_eq n.toNat, if_neg (by omega), show (n / 256).toNat = n.toNat / 256 by omega]
theorem num_step {n : Nat} (h : n ≤ 1099511627776) : strOf [IntKind.u8.wrap ((bk (b256 n)).size : Int)] ++ bk (b256 n) = bk (numL n) := by
  have := b256_le6 h
  apply kb_inj
  rw [kb_app, kb_bk, kb_bk, kb_strOf1, bk_size, u8w (by omega)]
  unfold numL
  rw [show ((b256 n).length : Int).toNat % 256 = (b256 n).length by omega]; rfl
theorem numL_le {n : Nat} (h : n ≤ 1099511627776) : (numL n).length ≤ 7 := by have := b256_le6 h; unfold numL; rw [List.length_cons]; omega
theorem numS_le (n : Int) : (numS n).size ≤ 7 := by
  unfold numS
  split
  · rename_i h
    rw [bk_size]; exact numL_le (by omega)
  · exact Nat.zero_le _
theorem numS_nat {n : Nat} (h : n ≤ 1099511627776) : numS (n : Int) = bk (numL n) := by unfold numS; rw [if_pos ⟨by omega, by omega⟩, Int.toNat_natCast]
theorem txtQ_eq {s : ByteArray} (h : s.size ≤ 65536) : numS (s.size : Int) ++ s = txtQ s := by
  unfold txtQ
  rw [if_pos h, numS_nat (by omega)]
  apply kb_inj
  rw [kb_app, kb_bk, kb_bk]
  unfold txtL
  rw [kb_size]
theorem txtQ_le (s : ByteArray) : (txtQ s).size ≤ s.size + 7 := by
  unfold txtQ
  split
  · rename_i h
    rw [bk_size]
    unfold txtL
    have := numL_le (n := (kb s).length) (by rw [kb_size]; omega)
    rw [List.length_append, kb_size] at *; omega
  · exact Nat.zero_le _
theorem dOK_nil {d : ByteArray} (h : d.size = 0) : dOK d = true := by
  have : kb d = [] := List.eq_nil_of_length_eq_zero (by rw [kb_size]; exact h)
  unfold dOK; rw [this]; rfl
theorem dOK_eq {d : ByteArray} (h : 0 < d.size) : dOK d = !((((d.get! 0).toNat : Int)) == 0) := by
  have e := kb_get h
  unfold dOK
  rw [List.head?_eq_getElem?, e]
  generalize d.get! 0 = x
  by_cases hx : x = 0
  · subst hx; rfl
  · have : ¬ ((x.toNat : Int) = 0) := fun e => hx (by have : x.toNat = 0 := by omega
                                                      rw [← UInt8.ofNat_toNat (x := x), this]; rfl)
    have h2 : ¬ x.toNat = 0 := fun e => this (by omega)
    simp [hx, h2]
theorem tk_eq {b : ByteArray} (h0 : 0 < b.size) : takeN (kb b) = if (b.get! 0).toNat > 6 then none else if b.size - 1 < (b.get! 0).toNat then none else if dOK (b.extract 1 (1 + (b.get! 0).toNat)) = false then none else if v256 (kb (b.extract 1 (1 + (b.get! 0).toNat))) > 1099511627776 then none else some (v256 (kb (b.extract 1 (1 + (b.get! 0).toNat))), kb (b.extract (1 + (b.get! 0).toNat) b.size)) := by
  have e := kb_get h0
  have hs := kb_size b
  generalize b.get! 0 = k at e ⊢
  unfold dOK
  rw [kb_ext, kb_ext]
  rw [← hs]
  cases hb : kb b with
  | nil => rw [hb] at e; cases e
  | cons x t =>
    rw [hb] at e
    have e : x = k := by injection e
    subst e
    rw [takeN, List.length_cons, Nat.add_sub_cancel, Nat.add_comm 1 x.toNat, List.take_succ_cons, List.drop_succ_cons, List.drop_zero, List.take_succ_cons, List.drop_succ_cons, List.take_of_length_le (Nat.le_refl t.length)]
    by_cases h : (List.take x.toNat t).head? = some 0
    · rw [if_pos h, if_pos (show decide _ = false from decide_eq_false fun q => q h)]
    · rw [if_neg h, if_neg (show ¬ decide _ = false from fun q => (of_decide_eq_false q) h)]
theorem tk_nil {b : ByteArray} (h : b.size = 0) : takeN (kb b) = none := by
  have : kb b = [] := List.eq_nil_of_length_eq_zero (by rw [kb_size]; exact h)
  rw [this]; rfl
theorem i64_or8 {x y : Int} (hx0 : 0 ≤ x) (hx1 : x < 1099511627776) (h0 : 0 ≤ y) (h1 : y < 256) : Go.bits .or .i64 (x * 256) y = x * 256 + y :=
  bits_join .i64 63 (by decide) wraps_i64 8 (x * 256) y (by omega) (by omega) (by omega) h0 h1 (by omega)
end Go.Proofs.YtnhipiedjekkpaaGreatDoor.AXP
namespace Go.Proofs.YtnhipiedjekkpaaGreatDoor.AX
open Go AXP
set_option maxRecDepth 100000
theorem qd_lt : ∀ k, Holds 78 (conQDLt k)
  | 0 => conP_holds fun n => by
    intro F I w vals _ _ hpre
    exact absurd (hpre _ rfl).2.2 (Nat.not_lt_zero _)
  | k + 1 => conP_holds fun n => by
    rcases (show ∃ w : Int, w = n from ⟨_, rfl⟩) with ⟨n, rfl⟩
    refine fun_meets0 (AllH.tok (.cons (qd_lt k) (by kernel_rfl) .nil)) [] (by kernel_rfl) (by kernel_rfl) fun hpre => Eq.mpr (vcQDF k n _) ?_
    obtain ⟨h0, h1, h2⟩ : 0 ≤ n ∧ n ≤ 1099511627776 ∧ n.toNat < k + 1 := hpre _ rfl
    have ed : n.fdiv ((2 : Int) ^ min (Int.toNat (8 : Int)) IntKind.i64.bits) = n / 256 := by
      show n.fdiv 256 = _
      rw [Int.fdiv_eq_ediv_of_nonneg _ (by decide)]
    rw [ed]
    refine ⟨fun h => qfin rfl ?_ rfl rfl, fun h => Rq.mk (by decide) (Rq.mk ⟨by omega, by omega, ?_⟩ (Rq.mk (by show 1 ≤ maxSl; decide) (Rq.mk ?_ (qfin rfl ?_ rfl rfl))))⟩
    · have h : n = 0 := by simpa using h
      subst h; rfl
    · have h : ¬ n = 0 := by simpa using h
      omega
    · have := b256_le6 (n := (n / 256).toNat) (by omega)
      rw [bk_size]
      show _ + 1 ≤ maxSl
      unfold maxSl; omega
    · have h : ¬ n = 0 := by simpa using h
      rw [dig_step h0 h]; rfl
theorem qd_holds : Holds 78 conQD := conP_holds fun n => by
  intro F I w vals hH hv hpre
  exact qd_lt (n.toNat + 1) [.int .i64 n] [] { pre := some (0 ≤ n ∧ n ≤ 1099511627776 ∧ n.toNat < n.toNat + 1), res := .str (bk (b256 n.toNat)) } rfl F I w vals hH hv (fun p hp => by injection hp with hp; subst hp; exact ⟨(hpre _ rfl).1, (hpre _ rfl).2, Nat.lt_succ_self _⟩)
theorem numQ_holds : Holds 43 conNumQ := conP_holds fun n => by
  rcases (show ∃ w : Int, w = n from ⟨_, rfl⟩) with ⟨n, rfl⟩
  refine fun_meets0 (AllH.tok (.cons qd_holds (by kernel_rfl) .nil)) [] (by kernel_rfl) (by kernel_rfl) fun _ => Eq.mpr (vcNumQF n _) ?_
  have no : ¬ (0 ≤ n ∧ n ≤ 1099511627776) → [AV.str (ByteArray.mk (Array.mk [])), AV.int IntKind.i64 1] = compsOf (.tup [.str (numS n), .int .i64 (numE n)]) := fun h => by
    show _ = [AV.str (numS n), AV.int .i64 (numE n)]
    unfold numS numE; rw [if_neg h, if_neg h]
  refine ⟨fun h => qfin rfl (no ?_) rfl rfl, fun h => ⟨fun h1 => qfin rfl (no ?_) rfl rfl, fun h1 => ?_⟩⟩
  · have := of_decide_eq_true h; omega
  · have := of_decide_eq_true h1; omega
  have h : ¬ n < 0 := of_decide_eq_false h
  have h1 : ¬ n > 1099511627776 := of_decide_eq_false h1
  have hr : 0 ≤ n ∧ n ≤ 1099511627776 := ⟨by omega, by omega⟩
  have := b256_le6 (n := n.toNat) (by omega)
  refine Rq.mk hr (Rq.mk (by show 1 ≤ maxSl; decide) (Rq.mk ?_ ⟨fun _ => qfin rfl ?_ rfl rfl⟩))
  · rw [bk_size]
    show 1 + _ ≤ maxSl
    unfold maxSl; omega
  · rw [num_step (by omega)]
    show _ = [AV.str (numS n), AV.int .i64 (numE n)]
    unfold numS numE; rw [if_pos hr, if_pos hr]
theorem jnQ_sum : SumOK cxJnQ (LL Tryz.f105 [lsJnQ]) Tryz.f105.ntmps (loopAt Tryz.f105 0).1 (loopAt Tryz.f105 0).2 lsJnQ := by
  intro vs bs K hs
  unfold lsJnQ at hs
  simp only at hs
  split at hs
  case h_2 => exact hs.elim
  rename_i s m i t
  obtain ⟨⟨rfl, rfl, ht⟩, h⟩ := hs
  refine sum_rec (σ := Bool) (fun b => [.ptr 0 0, .row .str [s], .int .i64 1, .int .i64 (if b then 0 else 1)]) (fun b => [.bld (if b then t else t ++ (numS s.size ++ s))]) (fun b => b = false → s.size ≤ 65536) (fun b => if b then 1 else 0) ?_ true (fun e => (nomatch e))
  rintro (_ | _) hP R hR
  · refine Eq.mpr (vcJnQB _ s 1 1 _) ⟨fun h1 => absurd h1 (by decide), fun _ => ?_⟩
    exact h.yes (decide_eq_true (hP rfl))
  · refine Eq.mpr (vcJnQB _ s 1 0 _) ⟨fun _ => Rq.mk ⟨by decide, by show (0 : Int) < 1; decide⟩ ⟨fun _ => ⟨fun h1 => ?_, fun h1 => ⟨fun _ => ?_⟩⟩⟩, fun h1 => absurd h1 (by decide)⟩
    · have h1 : (s.size : Int) > 65536 := of_decide_eq_true h1
      exact h.no (decide_eq_false (by omega))
    · have h1 : ¬ (s.size : Int) > 65536 := of_decide_eq_false h1
      have hn := numS_le (s.size : Int)
      have hm : (numS (s.size : Int)).size + s.size ≤ maxSl := by unfold maxSl; omega
      refine Rq.mk hm (Rq.mk ?_ ?_)
      · show t.size + (numS (s.size : Int) ++ s).size ≤ maxSl
        rw [ht, ByteArray.size_append]; omega
      · exact hR false (fun _ => by omega) (by decide)
theorem jnQ_holds : Holds 105 conJnQ := conP_holds fun l => by
  intro F I w vals hH hv hpre
  obtain ⟨s, rfl⟩ : ∃ s : ByteArray, l = [s] := hpre _ rfl
  refine fun_meets1 (AllH.tok (.cons numQ_holds (by kernel_rfl) (.cons write_holds (by kernel_rfl) (.cons string_holds (by kernel_rfl) .nil)))) [] lsJnQ (by kernel_rfl) (by kernel_rfl) jnQ_sum (fun _ => Eq.mpr (vcJnQF s _) ?_) F I w vals hH hv hpre
  refine ⟨fun _ => Rq.mk ⟨rfl, rfl, rfl⟩ ⟨fun h1 => ?_, fun h1 => qfin rfl ?_ rfl rfl⟩⟩
  · have h1 : s.size ≤ 65536 := of_decide_eq_true h1
    have hn := txtQ_le s
    rw [ba_nilk, txtQ_eq h1]
    refine Rq.mk (by unfold maxSl; omega) (qfin rfl ?_ rfl rfl)
    show _ = [AV.str (txtQ s), AV.int .i64 (txtE s)]
    unfold txtE; rw [if_pos h1]
  · have h1 : ¬ s.size ≤ 65536 := of_decide_eq_false h1
    show _ = [AV.str (txtQ s), AV.int .i64 (txtE s)]
    unfold txtQ txtE; rw [if_neg h1, if_neg h1]
theorem txQ_holds : Holds 87 conTxQ := conP_holds fun s => by
  refine fun_meets0 (AllH.tok (.cons jnQ_holds (by kernel_rfl) .nil)) [] (by kernel_rfl) (by kernel_rfl) fun _ => Eq.mpr (vcTxQF s _) ?_
  exact Rq.mk ⟨_, rfl⟩ (qfin rfl rfl rfl rfl)
theorem tkN_sum : SumOK cxTkN (LL Tryz.f68 [lsTkN]) Tryz.f68.ntmps (loopAt Tryz.f68 0).1 (loopAt Tryz.f68 0).2 lsTkN := by
  intro vs bs K hs
  unfold lsTkN at hs
  simp only at hs
  split at hs
  case h_2 => exact hs.elim
  rename_i d r n m i
  obtain ⟨⟨rfl, rfl, rfl, hm⟩, h⟩ := hs
  refine sum_rec (σ := Nat) (fun i => [.str d, .str r, .int .i64 (v256 ((kb d).take i)), .int .i64 d.size, .int .i64 (i : Nat)]) (fun _ => []) (fun i => i ≤ d.size ∧ (0 < i → dOK d = true)) (fun i => d.size - i) ?_ 0 ⟨Nat.zero_le _, fun q => absurd q (Nat.lt_irrefl _)⟩
  rintro i ⟨hi, hd⟩ R hR
  have step : ∀ (hlt : i < d.size) (hok : dOK d = true) , R [.str d, .str r, AV.int IntKind.i64
                (IntKind.i64.wrap
                  (↑(BitVec.ofInt IntKind.i64.bits
                            (IntKind.i64.wrap ((v256 ((kb d).take i) : Int) * (2 : Int) ^ min (Int.toNat (8 : Int)) IntKind.i64.bits)) |||
                          BitVec.ofInt IntKind.i64.bits (IntKind.i64.wrap (↑(d.get! (i : Int).toNat).toNat : Int))).toNat :
                    Int)), .int .i64 d.size, .int .i64 (IntKind.i64.wrap ((i : Int) + 1))] [] := fun hlt hok => by
    have hb : ((d.get! i).toNat) < 256 := UInt8.toNat_lt _
    have hl : ((kb d).take i).length = i := by rw [List.length_take, kb_size]; omega
    have hv := v256_lt _ ((kb d).take i) (Nat.le_refl _)
    rw [hl] at hv
    have hv5 : v256 ((kb d).take i) < 1099511627776 := Nat.lt_of_lt_of_le hv (Nat.le_trans (Nat.pow_le_pow_right (by decide) (show i ≤ 5 by omega)) (by decide))
    have e1 : IntKind.i64.wrap ((v256 ((kb d).take i) : Int) * (2 : Int) ^ min (Int.toNat (8 : Int)) IntKind.i64.bits) = (v256 ((kb d).take i) : Int) * 256 := by
      show IntKind.i64.wrap ((v256 ((kb d).take i) : Int) * 256) = _
      exact wrap_id' (by omega) (by omega)
    have e2 : IntKind.i64.wrap (↑(d.get! (i : Int).toNat).toNat : Int) = ((d.get! i).toNat : Int) := by
      rw [Int.toNat_natCast]
      exact wrap_id' (by omega) (by omega)
    rw [e1, e2]
    have e3 := i64_or8 (x := (v256 ((kb d).take i) : Int)) (y := ((d.get! i).toNat : Int)) (by omega) (by omega) (by omega) (by omega)
    have e4 : (kb d).take (i + 1) = (kb d).take i ++ [d.get! i] := by
      rw [List.take_add_one, kb_get hlt]; rfl
    rw [wrap_succ hlt (by unfold maxSl; omega)]
    have := hR (i + 1) ⟨by omega, fun _ => hok⟩ (by omega)
    rw [e4, v256_snoc] at this
    have e5 : ((v256 ((kb d).take i) * 256 + (d.get! i).toNat : Nat) : Int) = (v256 ((kb d).take i) : Int) * 256 + ((d.get! i).toNat : Int) := by omega
    rw [e5, ← e3] at this
    exact this
  refine Eq.mpr (vcTkNB d r _ d.size i _) ⟨fun h1 => ?_, fun h1 => ?_⟩
  · have hlt : i < d.size := by have := of_decide_eq_true h1; omega
    refine ⟨fun h2 => Rq.mk ⟨by omega, by omega⟩ ⟨fun h3 => ?_, fun h3 => Rq.mk (by decide) (Rq.mk ⟨by omega, by omega⟩ (step hlt ?_))⟩, fun h2 => Rq.mk (by decide) (Rq.mk ⟨by omega, by omega⟩ (step hlt (hd ?_)))⟩
    · have h2 : (i : Int) = 0 := by simpa using h2
      obtain rfl : i = 0 := by omega
      exact h.no (by rw [dOK_eq hlt]; have h3 : ((d.get! 0).toNat : Int) == 0 := h3; rw [h3]; rfl)
    · have h2 : (i : Int) = 0 := by simpa using h2
      obtain rfl : i = 0 := by omega
      rw [dOK_eq hlt]
      have h3 : (((d.get! 0).toNat : Int) == 0) = false := h3
      rw [h3]; rfl
    · have h2 : ¬ (i : Int) = 0 := by simpa using h2
      omega
  · have h1 : ¬ (i : Int) < d.size := of_decide_eq_false h1
    have : i = d.size := by omega
    subst this
    have e : (kb d).take d.size = kb d := List.take_of_length_le (by rw [kb_size]; exact Nat.le_refl _)
    rw [e]
    refine h.yes ?_
    rcases Nat.eq_zero_or_pos d.size with h0 | h0
    · exact dOK_nil h0
    · exact hd h0
theorem tkN_holds : Holds 68 conTkN := conP_holds fun b => by
  rcases (show ∃ w : ByteArray, w = b from ⟨_, rfl⟩) with ⟨b, rfl⟩
  refine fun_meets1 tok0 [] lsTkN (by kernel_rfl) (by kernel_rfl) tkN_sum fun _ => Eq.mpr (vcTkNF b _) ?_
  have no : takeN (kb b) = none → [AV.int IntKind.i64 0, AV.str (ByteArray.mk (Array.mk [])), AV.int IntKind.i64 4] = compsOf (.tup [.int .i64 (tkN b), .str (tkR b), .int .i64 (tkE b)]) := fun h => by
    show _ = [AV.int .i64 (tkN b), AV.str (tkR b), AV.int .i64 (tkE b)]
    unfold tkN tkR tkE; rw [h]
  refine ⟨fun h => qfin rfl (no (tk_nil (eqS_nil.1 h))) rfl rfl, fun h => ?_⟩
  have h0 : 0 < b.size := by
    rcases Nat.eq_zero_or_pos b.size with h' | h'
    · rw [eqS_nil.2 h'] at h; cases h
    · exact h'
  have hk : (b.get! 0).toNat < 256 := UInt8.toNat_lt _
  have e1 : IntKind.i64.wrap (↑(b.get! (Int.toNat (0 : Int))).toNat : Int) = ((b.get! 0).toNat : Int) := wrap_id' (by show (_ : Int) ≤ ((b.get! 0).toNat : Int); omega) (by show ((b.get! 0).toNat : Int) < _; omega)
  have e2 : IntKind.i64.wrap ((1 : Int) + ((b.get! 0).toNat : Int)) = ((1 + (b.get! 0).toNat : Nat) : Int) := by rw [wrap_id' (by omega) (by omega)]; omega
  rw [e1, e2]
  have tk := tk_eq h0
  refine Rq.mk ⟨by omega, by omega⟩ ⟨fun h1 => qfin rfl (no ?_) rfl rfl, fun h1 => Rq.mk ⟨by omega, by omega⟩ ⟨fun hm => ⟨fun h2 => qfin rfl (no ?_) rfl rfl, fun h2 => ?_⟩⟩⟩
  · have := of_decide_eq_true h1
    rw [tk, if_pos (by omega)]
  · have := of_decide_eq_false h1
    have h2 := of_decide_eq_true h2
    rw [wrap_id' (by omega) (by unfold maxSl at hm; omega)] at h2
    rw [tk, if_neg (by omega), if_pos (by omega)]
  have h1 := of_decide_eq_false h1
  have h2 := of_decide_eq_false h2
  rw [wrap_id' (by omega) (by unfold maxSl at hm; omega)] at h2
  rw [if_neg (by omega), if_neg (by omega)] at tk
  have hx : (b.extract (Int.toNat (1 : Int)) (Int.toNat ((1 + (b.get! 0).toNat : Nat) : Int))).size = (b.get! 0).toNat := by
    rw [Int.toNat_natCast, ByteArray.size_extract]
    show min (1 + (b.get! 0).toNat) b.size - 1 = _
    omega
  refine Rq.mk ⟨by omega, by omega⟩ (Rq.mk ⟨by omega, by omega, by omega⟩ (Rq.mk ⟨by omega, by omega⟩ (Rq.mk ⟨by omega, by omega, by omega⟩ ⟨fun _ => Rq.mk ⟨rfl, rfl, rfl, by rw [hx]; omega⟩ ?_⟩)))
  rw [Int.toNat_natCast, Int.toNat_natCast]
  show Br (dOK (b.extract 1 (1 + (b.get! 0).toNat))) _ _
  refine ⟨fun h3 => ⟨fun h4 => qfin rfl (no ?_) rfl rfl, fun h4 => qfin rfl ?_ rfl rfl⟩, fun h3 => qfin rfl (no ?_) rfl rfl⟩
  · have h4 : ((v256 (kb (b.extract 1 (1 + (b.get! 0).toNat))) : Nat) : Int) > 1099511627776 := of_decide_eq_true h4
    rw [tk, if_neg (by rw [h3]; decide), if_pos (by omega)]
  · have h4 : ¬ ((v256 (kb (b.extract 1 (1 + (b.get! 0).toNat))) : Nat) : Int) > 1099511627776 := of_decide_eq_false h4
    rw [if_neg (by rw [h3]; decide), if_neg (by omega)] at tk
    show _ = [AV.int .i64 (tkN b), AV.str (tkR b), AV.int .i64 (tkE b)]
    unfold tkN tkR tkE; rw [tk]
    show _ = [AV.int .i64 _, AV.str (bk (kb _)), AV.int .i64 0]
    rw [bk_kb]; rfl
  · rw [tk, if_pos h3]
theorem tkT_holds : Holds 106 conTkT := conP_holds fun b => by
  rcases (show ∃ w : ByteArray, w = b from ⟨_, rfl⟩) with ⟨b, rfl⟩
  refine fun_meets0 (AllH.tok (.cons tkN_holds (by kernel_rfl) .nil)) [] (by kernel_rfl) (by kernel_rfl) fun _ => Eq.mpr (vcTkTF b _) ?_
  have no : takeT (kb b) = none → [AV.str (ByteArray.mk (Array.mk [])), AV.str (ByteArray.mk (Array.mk [])), AV.int IntKind.i64 4] = compsOf (.tup [.str (ttS b), .str (ttR b), .int .i64 (ttE b)]) := fun h => by
    show _ = [AV.str (ttS b), AV.str (ttR b), AV.int .i64 (ttE b)]
    unfold ttS ttR ttE; rw [h]
  cases ht : takeN (kb b) with
  | none =>
    have e : tkE b = 4 := by unfold tkE; rw [ht]
    rw [e]
    refine ⟨fun _ => qfin rfl (no ?_) rfl rfl, fun h => absurd h (by decide)⟩
    unfold takeT; rw [ht]
  | some p =>
    obtain ⟨n, r⟩ := p
    have e : tkE b = 0 := by unfold tkE; rw [ht]
    have e1 : tkN b = n := by unfold tkN; rw [ht]
    have e2 : tkR b = bk r := by unfold tkR; rw [ht]
    rw [e, e1, e2]
    have hT : takeT (kb b) = if n > 65536 ∨ n > r.length then none else some (r.take n, r.drop n) := by unfold takeT; rw [ht]
    rw [bk_size]
    refine ⟨fun h => absurd h (by decide), fun _ => ⟨fun h => qfin rfl (no ?_) rfl rfl, fun h => ⟨fun hm => ⟨fun h1 => qfin rfl (no ?_) rfl rfl, fun h1 => Rq.mk ⟨by omega, by omega, ?_⟩ (Rq.mk ⟨by omega, ?_, by omega⟩ (qfin rfl ?_ rfl rfl))⟩⟩⟩⟩
    · have := of_decide_eq_true h
      rw [hT, if_pos (.inl (by omega))]
    · have := of_decide_eq_true h1
      rw [hT, if_pos (.inr (by omega))]
    · have := of_decide_eq_false h1; omega
    · have := of_decide_eq_false h1; omega
    · have h := of_decide_eq_false h
      have h1 := of_decide_eq_false h1
      rw [if_neg (by omega)] at hT
      show _ = [AV.str (ttS b), AV.str (ttR b), AV.int .i64 (ttE b)]
      unfold ttS ttR ttE; rw [hT]
      have a1 : (bk r).extract (Int.toNat (0 : Int)) (n : Int).toNat = bk (r.take n) := kb_inj (by rw [kb_ext, kb_bk, kb_bk]; rfl)
      have a2 : (bk r).extract (n : Int).toNat (r.length : Int).toNat = bk (r.drop n) := kb_inj (by rw [kb_ext, kb_bk, kb_bk, Int.toNat_natCast, Int.toNat_natCast, List.take_length])
      rw [a1, a2]
theorem tn_holds : Holds 132 conTn := conP_holds fun n => by
  refine fun_meets0 (AllH.tok (.cons numQ_holds (by kernel_rfl) (.cons txQ_holds (by kernel_rfl) .nil))) [] (by kernel_rfl) (by kernel_rfl) fun _ => Eq.mpr (vcTnF n _) ?_
  exact qfin rfl rfl rfl rfl
theorem tt_holds : Holds 133 conTt := conP_holds fun n => by
  refine fun_meets0 (AllH.tok (.cons numQ_holds (by kernel_rfl) (.cons txQ_holds (by kernel_rfl) .nil))) [] (by kernel_rfl) (by kernel_rfl) fun _ => Eq.mpr (vcTtF n _) ?_
  exact qfin rfl rfl rfl rfl
end Go.Proofs.YtnhipiedjekkpaaGreatDoor.AX
end
section
namespace Go.Proofs.YtnhipiedjekkpaaGreatDoor.AXP
open Go Go.Proofs.YtnhipiedjekkpaaGreatDoor.AX
def repS (s p q : ByteArray) : ByteArray := bk (Lib.replaceAll (kb s) (kb p) (kb q))
theorem replaceK_len (old new : List UInt8) : ∀ (k : Nat) (s : List UInt8), (Lib.replaceK old new k s).length ≤ s.length + k * new.length
  | 0, s => by rw [Lib.replaceK]; omega
  | k + 1, s => by
    rw [Lib.replaceK]
    split
    · omega
    · have := replaceK_len old new k (s.drop ((Lib.index s old).toNat + old.length))
      rw [List.length_drop] at this
      rw [List.length_append, List.length_append, List.length_take, Nat.add_mul]
      omega
theorem countB_le {s p : ByteArray} (h1 : 1 ≤ p.size) : Lib.countB s p ≤ s.size := by
  have := Lib.countB_mul_le p h1 s.size s (Nat.le_refl _)
  exact Nat.le_trans (Nat.le_mul_of_pos_right _ h1) this
theorem repS_le {s p q : ByteArray} (h1 : 1 ≤ p.size) : (repS s p q).size ≤ s.size + s.size * q.size := by
  unfold repS
  rw [bk_size]
  unfold Lib.replaceAll Lib.replace
  have hc : Lib.count (kb s) (kb p) ≤ s.size := countB_le h1
  have hs := kb_size s
  have hq := kb_size q
  split
  · omega
  · have e : Lib.replaceNum (kb s) (kb p) (-1) = Lib.count (kb s) (kb p) := by unfold Lib.replaceNum; rw [if_pos (Or.inl (by decide))]
    have := replaceK_len (kb p) (kb q) (Lib.count (kb s) (kb p)) (kb s)
    have h2 := Nat.mul_le_mul_right q.size hc
    rw [e]
    rw [hq] at this
    omega
end Go.Proofs.YtnhipiedjekkpaaGreatDoor.AXP
namespace Go.Proofs.YtnhipiedjekkpaaGreatDoor.AX
open Go Go.Shelf Go.RowKit Go.Lib AXP
set_option linter.unusedVariables false
set_option linter.unusedSimpArgs false
def lays155_ren : Go.Shelf.Ren := ⟨fun | 138 => 161 | 143 => 163 | 154 => 159 | 155 => 152 | 165 => 162 | 166 => 21 | 169 => 24 | 195 => 165 | 197 => 164 | 217 => 171 | 218 => 166 | 219 => 168 | 224 => 173 | 225 => 172 | 240 => 42 | 241 => 167 | 260 => 169 | 266 => 175 | 267 => 174 | 276 => 77 | 277 => 170 | 314 => 176 | n => n, fun | 0 => 0 | 3 => 3 | 4 => 4 | 5 => 5 | 9 => 9 | 20 => 20 | 21 => 21 | 37 => 57 | 46 => 126 | 51 => 187 | 70 => 56 | 72 => 59 | 75 => 61 | 76 => 62 | 80 => 72 | 105 => 178 | 119 => 183 | 127 => 98 | 138 => 185 | 139 => 186 | 146 => 188 | 164 => 117 | n => n, fun | 1 => 1 | 3 => 2 | 4 => 3 | n => n⟩
theorem lays155 : Go.Proofs.Lays.n155 Tryz.prog lays155_ren := {
  mixed := by kernel_rfl
  f138 := Tryz.func161.trans (congrArg some (by kernel_rfl))
  f143 := Tryz.func163.trans (congrArg some (by kernel_rfl))
  f154 := Tryz.func159.trans (congrArg some (by kernel_rfl))
  f155 := Tryz.func152.trans (congrArg some (by kernel_rfl))
  f165 := Tryz.func162.trans (congrArg some (by kernel_rfl))
  f166 := Tryz.func21.trans (congrArg some (by kernel_rfl))
  f169 := Tryz.func24.trans (congrArg some (by kernel_rfl))
  f195 := Tryz.func165.trans (congrArg some (by kernel_rfl))
  f197 := Tryz.func164.trans (congrArg some (by kernel_rfl))
  f217 := Tryz.func171.trans (congrArg some (by kernel_rfl))
  f218 := Tryz.func166.trans (congrArg some (by kernel_rfl))
  f219 := Tryz.func168.trans (congrArg some (by kernel_rfl))
  f224 := Tryz.func173.trans (congrArg some (by kernel_rfl))
  f225 := Tryz.func172.trans (congrArg some (by kernel_rfl))
  f240 := Tryz.func42.trans (congrArg some (by kernel_rfl))
  f241 := Tryz.func167.trans (congrArg some (by kernel_rfl))
  f260 := Tryz.func169.trans (congrArg some (by kernel_rfl))
  f266 := Tryz.func175.trans (congrArg some (by kernel_rfl))
  f267 := Tryz.func174.trans (congrArg some (by kernel_rfl))
  f276 := Tryz.func77.trans (congrArg some (by kernel_rfl))
  f277 := Tryz.func170.trans (congrArg some (by kernel_rfl))
  f314 := Tryz.func176.trans (congrArg some (by kernel_rfl))
  t0 := Tryz.underlying0
  a0 := Tryz.isAgg0
  z0 := Tryz.sizeOf0
  v0 := Tryz.zeroValue0
  t3 := Tryz.underlying3
  a3 := Tryz.isAgg3
  z3 := Tryz.sizeOf3
  v3 := Tryz.zeroValue3
  t4 := Tryz.underlying4
  a4 := Tryz.isAgg4
  z4 := Tryz.sizeOf4
  v4 := Tryz.zeroValue4
  t5 := Tryz.underlying5
  a5 := Tryz.isAgg5
  z5 := Tryz.sizeOf5
  v5 := Tryz.zeroValue5
  t9 := Tryz.underlying9
  a9 := Tryz.isAgg9
  z9 := Tryz.sizeOf9
  v9 := Tryz.zeroValue9
  t20 := Tryz.underlying20
  a20 := Tryz.isAgg20
  z20 := Tryz.sizeOf20
  v20 := Tryz.zeroValue20
  t21 := Tryz.underlying21
  a21 := Tryz.isAgg21
  z21 := Tryz.sizeOf21
  v21 := Tryz.zeroValue21
  t37 := Tryz.underlying57
  a37 := Tryz.isAgg57
  z37 := Tryz.sizeOf57
  v37 := Tryz.zeroValue57
  t46 := Tryz.underlying126
  a46 := Tryz.isAgg126
  z46 := Tryz.sizeOf126
  v46 := Tryz.zeroValue126
  t51 := Tryz.underlying187
  a51 := Tryz.isAgg187
  z51 := Tryz.sizeOf187
  v51 := Tryz.zeroValue187
  t70 := Tryz.underlying56
  a70 := Tryz.isAgg56
  z70 := Tryz.sizeOf56
  v70 := Tryz.zeroValue56
  t72 := Tryz.underlying59
  a72 := Tryz.isAgg59
  z72 := Tryz.sizeOf59
  v72 := Tryz.zeroValue59
  t75 := Tryz.underlying61
  a75 := Tryz.isAgg61
  z75 := Tryz.sizeOf61
  v75 := Tryz.zeroValue61
  t76 := Tryz.underlying62
  a76 := Tryz.isAgg62
  z76 := Tryz.sizeOf62
  v76 := Tryz.zeroValue62
  t105 := Tryz.underlying178
  a105 := Tryz.isAgg178
  z105 := Tryz.sizeOf178
  v105 := Tryz.zeroValue178
  t119 := Tryz.underlying183
  a119 := Tryz.isAgg183
  z119 := Tryz.sizeOf183
  t127 := Tryz.underlying98
  a127 := Tryz.isAgg98
  z127 := Tryz.sizeOf98
  v127 := Tryz.zeroValue98
  t138 := Tryz.underlying185
  a138 := Tryz.isAgg185
  z138 := Tryz.sizeOf185
  v138 := Tryz.zeroValue185
  t139 := Tryz.underlying186
  a139 := Tryz.isAgg186
  z139 := Tryz.sizeOf186
  v139 := Tryz.zeroValue186
  t146 := Tryz.underlying188
  a146 := Tryz.isAgg188
  z146 := Tryz.sizeOf188
  v146 := Tryz.zeroValue188
  t164 := Tryz.underlying117
  a164 := Tryz.isAgg117
  z164 := Tryz.sizeOf117
  v164 := Tryz.zeroValue117
  g1 := by kernel_rfl
  g3 := by kernel_rfl
  g4 := by kernel_rfl }
theorem extra155 : Builder.Extra Tryz.prog lays155_ren := {
  sizeBuilder := by kernel_rfl
  liesBuilder := by kernel_rfl
  t5 := Tryz.underlying5
  a5 := Tryz.isAgg5
  z5 := Tryz.sizeOf5
  v5 := Tryz.zeroValue5
  infoByte := by kernel_rfl
  cellsByte := by kernel_rfl
  sizeByte := by kernel_rfl
  neB5 := by decide }

def conRepl : Con := conP [.str, .str, .str] fun (s p q : ByteArray) => { pre := some (s.size ≤ 4000000000 ∧ 1 ≤ p.size ∧ q.size ≤ 16), res := .str (repS s p q) }
theorem hasMax : 1 ∈ intTab := by decide
theorem repl_holds : Holds 152 conRepl := conP_holds fun s p q => by
  rcases (show ∃ w : ByteArray, w = s from ⟨_, rfl⟩) with ⟨s, rfl⟩
  rcases (show ∃ w : ByteArray, w = p from ⟨_, rfl⟩) with ⟨p, rfl⟩
  rcases (show ∃ w : ByteArray, w = q from ⟨_, rfl⟩) with ⟨q, rfl⟩
  intro F I w vals hH hv hpre
  obtain ⟨a1, a2, a3⟩ : s.size ≤ 4000000000 ∧ 1 ≤ p.size ∧ q.size ≤ 16 := hpre _ rfl
  cases hv with | cons b0 hv => cases hv with | cons b1 hv => cases hv with | cons b2 hv => cases hv with | nil =>
  rename_i v0 v1 v2
  obtain ⟨e0, _⟩ := (show ValR w (Own F I) I v0 (.str s) from b0).str
  obtain ⟨e1, _⟩ := (show ValR w (Own F I) I v1 (.str p) from b1).str
  obtain ⟨e2, _⟩ := (show ValR w (Own F I) I v2 (.str q) from b2).str
  subst e0; subst e1; subst e2
  obtain ⟨_, m, hm⟩ := hH.glob.2 _ hasMax
  have hc := countB_le (s := s) a2
  have hmul : Lib.countB s p * q.size ≤ 4000000000 * 16 := Nat.mul_le_mul (Nat.le_trans hc a1) a3
  refine (Any.strings_ReplaceAll lays155 extra155 s p q m w (by omega) hm a2 (by omega)).mono ?_
  rintro e w' ⟨rfl, hb⟩
  have hI : ∀ id, I id = none := fun id => by have := hH.hp id; cases id <;> exact this
  have hsz : (repS s p q).size ≤ maxSl := by
    have := repS_le (s := s) (q := q) a2
    have : s.size * q.size ≤ 4000000000 * 16 := Nat.mul_le_mul a1 a3
    unfold maxSl; omega
  refine ⟨_, I, rfl, .leaf (.str (repS s p q) hsz), ⟨fun id => by have := hI id; cases id <;> exact this, hH.inj, hH.apart, fun i l b h => (by rw [hI] at h; cases h), fun b h => Nat.lt_of_lt_of_le (hH.out b h) hb.size, hH.glob.mono (fun b _ hb' => hb.block b hb') fun _ _ h => h⟩, fun p hp => (nomatch hp), fun i hi => absurd hi (Nat.not_lt_zero _), fun i l b h => (by rw [hI] at h; cases h), hb.os, hb.tape, hb.output, hb.size, fun b hb' _ => hb.block b hb'⟩
theorem app_byte (w : World) (i : TypeInfo) (hi : Tryz.prog.info? 5 = some i) (hz : i.zero = some (.int .u8 0)) (hsize : i.size = 1) (hby : i.bytes = 1) (v : Value) (n : Nat) (xs : List Value) (hown : w.ownsRowF 0 5 1 v n xs) (a : Addr) (c : Int) (ha : w.cell? (a.add 0) = some (.int .u8 c)) (hl : n + 1 ≤ 140737488355328) (ty : TypeId) :
    ∃ v' w', (Builtin.append_ #[57, 57] ty #[v, .slice (some a) 1 1]).run Tryz.prog w = .ok v' w' ∧ w'.ownsRowF 0 5 1 v' (n + 1) (xs ++ [.int .u8 c]) ∧ w.grownBy w' v.ownBlock ∧ ∀ k, v'.ownBlock = some k → v.ownBlock = some k ∨ w.heap.size ≤ k := by
  have h63 : n + 1 ≤ maxLen := by unfold maxLen; omega
  have hnews : ∀ j u, ([Value.int .u8 c] : List Value)[j]? = some u → w.cell? (a.add j) = some u := fun j u h => by
    cases j with
    | zero => simp at h; subst h; exact ha
    | succ j => simp at h
  have h1 : ∀ u ∈ ([Value.int .u8 c] : List Value), u.oneCell' = true := fun u h => by simp at h; subst h; rfl
  rcases hown.2 with ⟨rfl, rfl⟩ | ⟨g, cap, cur, fz, rfl, hbg, hg, hfz, hnc, hcm, hcs, htake⟩
  · obtain ⟨v', w', q1, q2, q3, q4⟩ := run_append_ownF (P := Tryz.prog) w w.heap.size 57 ty 5 i (.int .u8 0) 1 1 Tryz.underlying57 hi hz hsize hby rfl (by decide) (.slice none 0 0) 0 xs ⟨hown.1, .inl ⟨rfl, rfl⟩⟩ a 1 1 [.int .u8 c] rfl hnews h1 h63 (by omega) (Nat.le_refl _)
    refine ⟨v', w', q1, ⟨q2.1, ?_⟩, q3, fun k hk => .inr (q2.lt k hk).1⟩
    rcases q2.2 with h | ⟨g, cap, cur, fz, e, _, r⟩
    · exact .inl h
    · exact .inr ⟨g, cap, cur, fz, e, Nat.zero_le _, r⟩
  · obtain ⟨v', w', q1, q2, q3, q4⟩ := run_append_ownF (P := Tryz.prog) w 0 57 ty 5 i (.int .u8 0) 1 1 Tryz.underlying57 hi hz hsize hby rfl (by decide) _ n xs hown a 1 1 [.int .u8 c] rfl hnews h1 h63 (by omega) (Nat.zero_le _)
    refine ⟨v', w', q1, q2, q3, fun k hk => ?_⟩
    by_cases hroom : n + 1 ≤ cap
    · have hr := run_append_roomF (P := Tryz.prog) w 57 ty 5 i Tryz.underlying57 hi g n cap cur fz hg (by rw [hsize]; simpa using hfz) a 1 1 [.int .u8 c] (by rw [hsize]; rfl) hnews h1 hroom (by rw [hsize, hcs]; simp; omega)
      rw [hr] at q1
      injection q1 with q1 _
      subst q1
      exact .inl hk
    · have hr := run_append_grow (P := Tryz.prog) w 57 ty 5 i (.int .u8 0) Tryz.underlying57 hi hz ⟨g, 0, none⟩ n cap xs (by rw [hsize]; simpa using hown.1) (hown.cells (g := g) rfl) a 1 1 [.int .u8 c] (by rw [hsize]; rfl) hnews (by omega) (by omega) (by rw [hby]; exact growslice_fits (by omega) (by omega))
      rw [hr] at q1
      injection q1 with q1 _
      subst q1
      cases hk
      exact .inr (Nat.le_refl _)
set_option maxHeartbeats 8000000 in
set_option maxRecDepth 1000000 in
theorem writeb_walk (b n : Nat) (p v : Value) (vs : List Value) (c : Int) (w : World) (hb : w.heap[b]? = some (.cells #[p, v] 59 (0, 0))) (hp : p = .pointer none ∨ p = .pointer (some ⟨b, 0, none⟩)) (hne : v.ownBlock ≠ some b)
    (hown : w.ownsRowF 0 5 1 v n vs) (hl : n + 1 ≤ maxSl) :
    Calls Tryz.prog 144 #[.pointer (some ⟨b, 0, none⟩), .int .u8 c] w (BldPost b v n 1 vs [.int .u8 c] w) := by
  obtain ⟨i0, hi, hz0, hz1, hz2⟩ := info_parts extra166.infoByte
  have mixed : Tryz.prog.follows Departure.mixedOrders = true := by kernel_rfl
  have hlt : b < w.heap.size := (Array.getElem?_eq_some_iff.1 hb).1
  unfold maxSl at hl
  go_enter Tryz.func144, Tryz.ntmps144
  go_wp2_with (go_at_call 42; refine (copyCheck_walk b p v _ hb hp).mono ?_)
  rintro e w1 ⟨rfl, h1, ho1, ht1, hu1, hs1, hk1⟩
  have c0 : w1.cell? ⟨b, 0, none⟩ = some (.pointer (some ⟨b, 0, none⟩)) := by rw [Lib.cell_of_heap h1]; rfl
  have c1 : w1.cell? ⟨b, 1, none⟩ = some v := by rw [Lib.cell_of_heap h1]; rfl
  have hown1 : w1.ownsRowF 0 5 1 v n vs := ownsRowF_mono hown fun k hk => hk1 k fun e => hne (by rw [hk, e])
  have hal : ∀ k, k < w1.heap.size → (w1.alloc (.cells #[.int .u8 c] 5 (0, 0))).heap[k]? = w1.heap[k]? := fun k hk => Below.heap_alloc _ _ _ hk
  obtain ⟨v', w2, hrun, hown', hgrow, hplace⟩ := app_byte (w1.alloc (.cells #[.int .u8 c] 5 (0, 0))) i0 hi hz0 hz1 hz2 v n vs (hown1.alloc _) ⟨w.heap.size, 0, none⟩ c (by rw [← hs1]; simp [Addr.add]) (by omega) 57
  have hb2 : w2.heap[b]? = some (.cells #[.pointer (some ⟨b, 0, none⟩), v] 59 (0, 0)) := by
    rw [hgrow.block b (by simp; omega) (fun e => hne e.symm), hal b (by omega)]
    exact h1
  have d0 : w2.cell? ⟨b, 0, none⟩ = some (.pointer (some ⟨b, 0, none⟩)) := by rw [Lib.cell_of_heap hb2]; rfl
  have d1 : w2.cell? ⟨b, 1, none⟩ = some v := by rw [Lib.cell_of_heap hb2]; rfl
  have f1 : w2.frozen? ⟨b, 1, none⟩ = false := Lib.frozen_of_heap hb2 1
  have hv' : v'.ownBlock ≠ some b ∧ ∀ k, v'.ownBlock = some k → v.ownBlock = some k ∨ w.heap.size ≤ k := by
    refine ⟨fun e => ?_, fun k hk => ?_⟩
    · rcases hplace b e with h | h
      · exact hne h
      · simp at h; omega
    · rcases hplace k hk with h | h
      · exact .inl h
      · simp at h; exact .inr (by omega)
  obtain ⟨ao, n', cap, rfl⟩ : ∃ ao n' cap, v' = .slice ao n' cap := by
    rcases hown'.2 with ⟨hv, _⟩ | ⟨g, cap, cur, fz, hv, _⟩
    · exact ⟨_, _, _, hv⟩
    · exact ⟨_, _, _, hv⟩
  go_wp2_with (at_builtin; refine Lib.wpList_append_run _ rfl _ _ _ _ rfl _ _ rfl rfl _ _ hrun ?_)
  go_ret
  have hset : ∀ k, k ≠ b → (w2.setCell ⟨b, 1, none⟩ (.slice ao n' cap)).heap[k]? = w2.heap[k]? := fun k hk => by simp [World.setCell, Array.getElem?_modify, Ne.symm hk]
  refine ⟨⟨_, rfl⟩, .slice ao n' cap, by simp [World.setCell, Array.getElem?_modify, hb2], ownsRowF_mono hown' fun k hk => hset k fun e => hv'.1 (by rw [hk, e]), hv'.1, fun h0 hv => absurd h0 (by omega), hv'.2, hgrow.os.trans ho1, hgrow.tape.trans ht1, hgrow.output.trans hu1, ?_, fun k hk hkb hkv => ?_⟩
  · show w.heap.size ≤ (w2.setCell ⟨b, 1, none⟩ (.slice ao n' cap)).heap.size
    have := hgrow.size
    simp only [World.setCell, Array.size_modify]; simp at this; omega
  · exact (hset k hkb).trans ((hgrow.block k (by simp; omega) (Ne.symm hkv)).trans ((hal k (by omega)).trans (hk1 k hkb)))
def conWriteB : Con := fun args hp => match args, hp with
  | [.ptr 0 0, .int .u8 c], [.bld t] => some { pre := some (t.size + 1 ≤ maxSl ∧ 0 ≤ c ∧ c < 256), res := .any, hp := [.bld (t ++ strOf [c])] }
  | _, _ => none
theorem writeb_holds : Holds 144 conWriteB := by
  intro args hp ans hc
  unfold conWriteB at hc
  split at hc
  case h_2 => cases hc
  rename_i c t
  injection hc with hc
  subst hc
  intro F I w vals hH hv hpre
  obtain ⟨p1, p2, p3⟩ : t.size + 1 ≤ maxSl ∧ 0 ≤ c ∧ c < 256 := hpre _ rfl
  cases hv with | cons a0 q => cases q with | cons a1 q => cases q with | nil =>
  rename_i v0 v1
  have hR := HRel.toRel hH
  obtain ⟨l0, hl0, g, v, p, ty, vs, rfl, rfl, h1, h2, h3, h4, h5, h6⟩ := hH.hp 0
  have e0 : v0 = .pointer (some ⟨g, 0, none⟩) := (ValR.ptr (w := w) (show ValR w (Own F I) I v0 (.ptr 0 0) from a0)).2.2.2 g v hl0 rfl
  have e1 := (show ValR w (Own F I) I v1 (.int .u8 c) from a1).int
  subst e0; subst e1
  refine (writeb_walk g t.size p v vs c w h1 h2 h3 h4 p1).mono ?_
  rintro e w' ⟨⟨r, rfl⟩, v', q1, q2, q3, q4, q5, q6, q7, q8, q9, q10⟩
  have hsz : (t ++ strOf [c]).size = t.size + 1 := ByteArray.size_append
  have hR' := hR.bldTurn (id := 0) (t' := t ++ strOf [c]) (t := t) rfl hl0 q1 (.inr rfl) q3 (by rw [hsz]; exact q2) (by
      rw [h5, ByteArray.data_append, Array.toList_append, List.map_append]
      show _ = _ ++ [Value.int .u8 ((UInt8.ofNat c.toNat).toNat : Int)]
      rw [u8_of (by omega), Int.toNat_of_nonneg p2]) (fun hz => absurd hz (by omega)) q5 q6 q7 q8 q9 q10
  refine Rel.post (ans := { pre := some (t.size + 1 ≤ maxSl ∧ 0 ≤ c ∧ c < 256), res := .any, hp := [.bld (t ++ strOf [c])] }) hR' trivial rfl fun i hi => ?_
  have : i = 0 := by simp at hi; exact hi
  subst this
  refine ⟨fun b hb => ?_, fun b u hb => ?_, fun n t' u hb => ?_⟩
  · rw [hl0] at hb; injection hb with hb; cases hb
  · rw [hl0] at hb; injection hb with hb; injection hb with hb; subst hb; exact ⟨v', iup_same _ _ _⟩
  · rw [hl0] at hb; injection hb with hb; cases hb
end Go.Proofs.YtnhipiedjekkpaaGreatDoor.AX
end
section
namespace Go.Proofs.YtnhipiedjekkpaaGreatDoor.AXP
open Go Go.Proofs.YtnhipiedjekkpaaGreatDoor.AX
def twI (l : List At) (i : Int) : Bool := (l.take i.toNat).any fun b => eqS (rd Ty.attr l i).name b.name
def escQ (s : ByteArray) : ByteArray := repS (repS (repS (repS (repS s ⟨#[38]⟩ ⟨#[38, 97, 109, 112, 59]⟩) ⟨#[194, 160]⟩ ⟨#[38, 110, 98, 115, 112, 59]⟩) ⟨#[60]⟩ ⟨#[38, 108, 116, 59]⟩) ⟨#[62]⟩ ⟨#[38, 103, 116, 59]⟩) ⟨#[34]⟩ ⟨#[38, 113, 117, 111, 116, 59]⟩
def okA (x : At) : Bool := nameB x.name && goodB x.value
def atO (x : At) : ByteArray := ((((⟨#[32]⟩ : ByteArray) ++ x.name) ++ (⟨#[61, 34]⟩ : ByteArray)) ++ escQ x.value) ++ (⟨#[34]⟩ : ByteArray)
def opF (t : ByteArray) : List At → ByteArray
  | [] => t
  | x :: l => if okA x = true then opF (t ++ atO x) l else t
def opS (m : ByteArray) (a : List At) : ByteArray := if wrongE m a = 0 then opF ((⟨#[]⟩ : ByteArray) ++ ((⟨#[60]⟩ : ByteArray) ++ m)) a ++ strOf [62] else ⟨#[]⟩
def oBnd (a : List At) : Prop := a.length ≤ 10000 ∧ ∀ x ∈ a, x.value.size ≤ 1000000
end Go.Proofs.YtnhipiedjekkpaaGreatDoor.AXP
namespace Go.Proofs.YtnhipiedjekkpaaGreatDoor.AX
open Go AXP
def lsTwO : LS where
  keep := [(0, .as), (6, .as), (7, .as)]
  left := [(2, .as)]
  sum := fun vs bs K => match vs, bs with
    | [.row .attr l, .int .i64 m, .int .i64 i], [] => Rq (m = l.length ∧ i = 0 ∧ l.length ≤ maxSl) (Br (twiceB l) (K .ret [.bool true] []) (K (.exit 0) [.any] []))
    | _, _ => False
def lsTwI : LS where
  keep := [(0, .as), (3, .as), (6, .as), (7, .as), (10, .as), (11, .as)]
  left := [(0, .as), (6, .as), (7, .as), (2, .as)]
  sum := fun vs bs K => match vs, bs with
    | [.row .attr l, .int .i64 i, .int .i64 m, .int .i64 j, .int .i64 n, .int .i64 k], [] => Rq (k = 0 ∧ n = i ∧ 0 ≤ i ∧ i < l.length ∧ l.length ≤ maxSl) (Br (twI l i) (K .ret [.row .attr l, .int .i64 m, .int .i64 j, .bool true] []) (K (.exit 2) [.row .attr l, .int .i64 m, .int .i64 j, .any] []))
    | _, _ => False
noncomputable def cxTw : Cx := cxT (tabLook [])
def conTw : Con := conP [.row .attr] fun (l : List At) => { res := .bool (twiceB l) }
def lsSiz : LS where
  keep := [(0, .as), (3, .as)]
  left := [(3, .as)]
  sum := fun vs bs K => match vs, bs with
    | [.int .i64 c, .int .i64 n], [] => Rq (c = 160 ∧ n = 4) (K (.exit 0) [.int .i64 2] [])
    | _, _ => False
def conSiz : Con := conP [.int] fun (c : Int) => { pre := some (c = 160), res := .int .i64 2 }
noncomputable def cxByt : Cx := cxT (tabLook [(158, conIsU), (160, conSiz)])
def lsByt : LS where
  keep := [(0, .as), (3, .as), (4, .own .u8), (5, .as)]
  left := [(0, .as), (3, .as), (4, .own .u8)]
  sum := fun vs bs K => match vs, bs with
    | [.int .i64 c, .int .i64 n, .own 0 0, .int .i64 i], [.rowb 0 .u8 xs] => Rq (c = 160 ∧ n = 2 ∧ i = 1 ∧ xs = [(0 : Int), 0]) (K (.exit 0) [.int .i64 2, .int .i64 2, .own 0 0] [.rowb 0 .u8 [(0 : Int), 160]])
    | _, _ => False
def conByt : Con := conP [.int] fun (c : Int) => { pre := some (c = 160), res := .str ⟨#[194, 160]⟩ }
noncomputable def cxEsc : Cx := cxT (tabLook [(152, conRepl), (153, conByt)])
def conEsc : Con := conP [.str, .bool] fun (s : ByteArray) (v : Bool) => { pre := some (v = true ∧ s.size ≤ 1000000), res := .str (escQ s) }
noncomputable def cxOpn : Cx := cxT (tabLook [(141, conNameP), (128, conGoodP), (142, conEsc), (143, conTw), (21, conWrite), (144, conWriteB), (24, conString)])
def lsOpn : LS where
  keep := [(6, .as), (1, .as), (15, .as), (16, .as), (17, .as)]
  left := [(6, .as), (1, .as), (4, .as), (5, .as)]
  sum := fun vs bs K => match vs, bs with
    | [.ptr 0 0, .row .attr a, .row .attr a', .int .i64 m, .int .i64 i], [.bld t] => Rq (a' = a ∧ m = a.length ∧ i = 0 ∧ oBnd a ∧ t.size ≤ 100) (Br (a.all okA) (K (.exit 0) [.ptr 0 0, .row .attr a, .any, .any] [.bld (opF t a)]) (K .ret [.ptr 0 0, .row .attr a, .str ⟨#[]⟩, .int .i64 4] [.bld (opF t a)]))
    | _, _ => False
def conOpn : Con := conP [.str, .row .attr] fun (m : ByteArray) (a : List At) => { pre := some (oBnd a), res := .tup [.str (opS m a), .int .i64 (wrongE m a)] }
end Go.Proofs.YtnhipiedjekkpaaGreatDoor.AX
end
section
namespace Go.Proofs.YtnhipiedjekkpaaGreatDoor.AX
open Go AXP
set_option maxRecDepth 100000
theorem vcTwO (l : List At) (m i : Int) (K : Ex → List AV → List Blk → Prop) : (bodyA cxTw (LL Tryz.f143 [lsTwO, lsTwI]) Tryz.f143.ntmps (loopAt Tryz.f143 0).1 (loopAt Tryz.f143 0).2 lsTwO.keep lsTwO.left K [.row .attr l, .int .i64 m, .int .i64 i] []) = (
Br (decide (i < m))
 (Rq ((0 : Int) = (0 : Int) ∧ i = i ∧ (0 : Int) ≤ i ∧ i < (↑l.length : Int) ∧ l.length ≤ maxSl)
 (Br (twI l i) (K Ex.ret [AV.bool true] [])
 (K Ex.norm [AV.row Ty.attr l, AV.int IntKind.i64 m, AV.int IntKind.i64 (IntKind.i64.wrap (i + (1 : Int)))] [])))
 (K (Ex.exit (0 : Nat)) [AV.any] [])) := by kernel_rfl
theorem vcTwI (l : List At) (i m j n k : Int) (K : Ex → List AV → List Blk → Prop) : (bodyA cxTw (LL Tryz.f143 [lsTwO, lsTwI]) Tryz.f143.ntmps (loopAt Tryz.f143 1).1 (loopAt Tryz.f143 1).2 lsTwI.keep lsTwI.left K [.row .attr l, .int .i64 i, .int .i64 m, .int .i64 j, .int .i64 n, .int .i64 k] []) = (
Br (decide (k < n))
 (Rq ((0 : Int) ≤ i ∧ i < (↑l.length : Int))
 (Rq ((0 : Int) ≤ k ∧ k < (↑l.length : Int))
 (Br (eqS (rd Ty.attr l i).1 (rd Ty.attr l k).1)
 (K Ex.ret [AV.row Ty.attr l, AV.int IntKind.i64 m, AV.int IntKind.i64 j, AV.bool true] [])
 (K Ex.norm
 [AV.row Ty.attr l, AV.int IntKind.i64 i, AV.int IntKind.i64 m, AV.int IntKind.i64 j, AV.int IntKind.i64 n,
 AV.int IntKind.i64 (IntKind.i64.wrap (k + (1 : Int)))]
 []))))
 (K (Ex.exit (2 : Nat)) [AV.row Ty.attr l, AV.int IntKind.i64 m, AV.int IntKind.i64 j, AV.any] [])) := by kernel_rfl
theorem vcTwF (l : List At) (Q : List AV → List Blk → List Blk → Prop) : (funA cxTw (LL Tryz.f143 [lsTwO, lsTwI]) Tryz.f143 [.row .attr l] [] [] Q) = (
Gv (l.length ≤ maxSl)
 (Rq ((↑l.length : Int) = (↑l.length : Int) ∧ (0 : Int) = (0 : Int) ∧ l.length ≤ maxSl)
 (Br (twiceB l) (Q [AV.bool true] [] []) (Q [AV.bool false] [] [])))) := by kernel_rfl
theorem vcSizB (c n : Int) (K : Ex → List AV → List Blk → Prop) : (bodyA cxTw (LL Tryz.f160 [lsSiz]) Tryz.f160.ntmps (loopAt Tryz.f160 0).1 (loopAt Tryz.f160 0).2 lsSiz.keep lsSiz.left K [.int .i64 c, .int .i64 n] []) = (
Rq
 ((0 : Int) ≤ n ∧
 n <
 (↑[Tw.mk (0 : Int) (0 : Int), Tw.mk (0 : Int) (0 : Int), Tw.mk (192 : Int) (128 : Int),
 Tw.mk (224 : Int) (2048 : Int), Tw.mk (240 : Int) (65536 : Int)].length :
 Int))
 (Br
 (decide
 (c <
 (rd Ty.two
 [Tw.mk (0 : Int) (0 : Int), Tw.mk (0 : Int) (0 : Int), Tw.mk (192 : Int) (128 : Int),
 Tw.mk (224 : Int) (2048 : Int), Tw.mk (240 : Int) (65536 : Int)]
 n).2))
 (K Ex.norm [AV.int IntKind.i64 c, AV.int IntKind.i64 (IntKind.i64.wrap (n - (1 : Int)))] [])
 (K (Ex.exit (0 : Nat)) [AV.int IntKind.i64 n] []))) := by kernel_rfl
theorem vcSizF (Q : List AV → List Blk → List Blk → Prop) : (funA cxTw (LL Tryz.f160 [lsSiz]) Tryz.f160 [.int .i64 160] [] [] Q) = (
Rq ((160 : Int) = (160 : Int) ∧ (4 : Int) = (4 : Int)) (Q [AV.int IntKind.i64 (2 : Int)] [] [])) := by kernel_rfl
theorem vcBytB (c n i : Int) (xs : List Int) (K : Ex → List AV → List Blk → Prop) : (bodyA cxByt (LL Tryz.f153 [lsByt]) Tryz.f153.ntmps (loopAt Tryz.f153 0).1 (loopAt Tryz.f153 0).2 lsByt.keep lsByt.left K [.int .i64 c, .int .i64 n, .own 0 0, .int .i64 i] [.rowb 0 .u8 xs]) = (
Br (decide (i > (0 : Int)))
 (Rq ((0 : Int) ≤ i ∧ i < (↑xs.length : Int))
 (Rq ((0 : Int) ≤ (6 : Int))
 (K Ex.norm
 [AV.int IntKind.i64 (c.fdiv ((2 : Int) ^ min (Int.toNat (6 : Int)) IntKind.i64.bits)), AV.int IntKind.i64 n,
 AV.own (0 : Nat) (0 : Nat), AV.int IntKind.i64 (IntKind.i64.wrap (i - (1 : Int)))]
 [Blk.rowb (0 : Nat) Ty.u8
 (xs.set i.toNat
 (IntKind.u8.wrap
 (IntKind.i64.wrap
 (↑(BitVec.ofInt IntKind.i64.bits (128 : Int) |||
 BitVec.ofInt IntKind.i64.bits
 (IntKind.i64.wrap
 (↑(BitVec.ofInt IntKind.i64.bits c &&& BitVec.ofInt IntKind.i64.bits (63 : Int)).toNat :
 Int))).toNat :
 Int))))])))
 (K (Ex.exit (0 : Nat)) [AV.int IntKind.i64 c, AV.int IntKind.i64 n, AV.own (0 : Nat) (0 : Nat)]
 [Blk.rowb (0 : Nat) Ty.u8 xs])) := by kernel_rfl
theorem vcBytF (Q : List AV → List Blk → List Blk → Prop) : (funA cxByt (LL Tryz.f153 [lsByt]) Tryz.f153 [.int .i64 160] [] [] Q) = (
Br false
 (Rq ((65533 : Int) = (160 : Int))
 (Rq ((0 : Int) ≤ (2 : Int) ∧ (2 : Int) * (↑(1 : Nat) : Int) ≤ (↑maxSl : Int))
 (Rq
 ((65533 : Int) = (160 : Int) ∧
 (2 : Int) = (2 : Int) ∧
 IntKind.i64.wrap ((2 : Int) - (1 : Int)) = (1 : Int) ∧
 List.replicate (Int.toNat (2 : Int)) (0 : Int) = [(0 : Int), (0 : Int)])
 (Rq
 ((0 : Int) ≤ (2 : Int) ∧
 (2 : Int) <
 (↑[Tw.mk (0 : Int) (0 : Int), Tw.mk (0 : Int) (0 : Int), Tw.mk (192 : Int) (128 : Int),
 Tw.mk (224 : Int) (2048 : Int), Tw.mk (240 : Int) (65536 : Int)].length :
 Int))
 (Rq ((0 : Int) ≤ (0 : Int) ∧ (0 : Int) < (↑[(0 : Int), (160 : den Ty.u8)].length : Int))
 (Rq
 (([(0 : Int), (160 : den Ty.u8)].set (Int.toNat (0 : Int))
 (IntKind.u8.wrap
 (IntKind.i64.wrap
 (↑(BitVec.ofInt IntKind.i64.bits
 (rd
 (Glo.mk (0 : Nat) Ty.two
 [Tw.mk (0 : Int) (0 : Int), Tw.mk (0 : Int) (0 : Int),
 Tw.mk (192 : Int) (128 : Int), Tw.mk (224 : Int) (2048 : Int),
 Tw.mk (240 : Int) (65536 : Int)]).t
 (Glo.mk (0 : Nat) Ty.two
 [Tw.mk (0 : Int) (0 : Int), Tw.mk (0 : Int) (0 : Int),
 Tw.mk (192 : Int) (128 : Int), Tw.mk (224 : Int) (2048 : Int),
 Tw.mk (240 : Int) (65536 : Int)]).xs
 (2 : Int)).a |||
 BitVec.ofInt IntKind.i64.bits (2 : Int)).toNat :
 Int)))).length ≤
 maxSl)
 (Q
 [AV.str
 (strOf
 ([(0 : Int), (160 : den Ty.u8)].set (Int.toNat (0 : Int))
 (IntKind.u8.wrap
 (IntKind.i64.wrap
 (↑(BitVec.ofInt IntKind.i64.bits
 (rd
 (Glo.mk (0 : Nat) Ty.two
 [Tw.mk (0 : Int) (0 : Int), Tw.mk (0 : Int) (0 : Int),
 Tw.mk (192 : Int) (128 : Int), Tw.mk (224 : Int) (2048 : Int),
 Tw.mk (240 : Int) (65536 : Int)]).t
 (Glo.mk (0 : Nat) Ty.two
 [Tw.mk (0 : Int) (0 : Int), Tw.mk (0 : Int) (0 : Int),
 Tw.mk (192 : Int) (128 : Int), Tw.mk (224 : Int) (2048 : Int),
 Tw.mk (240 : Int) (65536 : Int)]).xs
 (2 : Int)).a |||
 BitVec.ofInt IntKind.i64.bits (2 : Int)).toNat :
 Int)))))]
 [] [])))))))
 (Rq ((160 : Int) = (160 : Int))
 (Rq ((0 : Int) ≤ (2 : Int) ∧ (2 : Int) * (↑(1 : Nat) : Int) ≤ (↑maxSl : Int))
 (Rq
 ((160 : Int) = (160 : Int) ∧
 (2 : Int) = (2 : Int) ∧
 IntKind.i64.wrap ((2 : Int) - (1 : Int)) = (1 : Int) ∧
 List.replicate (Int.toNat (2 : Int)) (0 : Int) = [(0 : Int), (0 : Int)])
 (Rq
 ((0 : Int) ≤ (2 : Int) ∧
 (2 : Int) <
 (↑[Tw.mk (0 : Int) (0 : Int), Tw.mk (0 : Int) (0 : Int), Tw.mk (192 : Int) (128 : Int),
 Tw.mk (224 : Int) (2048 : Int), Tw.mk (240 : Int) (65536 : Int)].length :
 Int))
 (Rq ((0 : Int) ≤ (0 : Int) ∧ (0 : Int) < (↑[(0 : Int), (160 : den Ty.u8)].length : Int))
 (Rq
 (([(0 : Int), (160 : den Ty.u8)].set (Int.toNat (0 : Int))
 (IntKind.u8.wrap
 (IntKind.i64.wrap
 (↑(BitVec.ofInt IntKind.i64.bits
 (rd
 (Glo.mk (0 : Nat) Ty.two
 [Tw.mk (0 : Int) (0 : Int), Tw.mk (0 : Int) (0 : Int),
 Tw.mk (192 : Int) (128 : Int), Tw.mk (224 : Int) (2048 : Int),
 Tw.mk (240 : Int) (65536 : Int)]).t
 (Glo.mk (0 : Nat) Ty.two
 [Tw.mk (0 : Int) (0 : Int), Tw.mk (0 : Int) (0 : Int),
 Tw.mk (192 : Int) (128 : Int), Tw.mk (224 : Int) (2048 : Int),
 Tw.mk (240 : Int) (65536 : Int)]).xs
 (2 : Int)).a |||
 BitVec.ofInt IntKind.i64.bits (2 : Int)).toNat :
 Int)))).length ≤
 maxSl)
 (Q
 [AV.str
 (strOf
 ([(0 : Int), (160 : den Ty.u8)].set (Int.toNat (0 : Int))
 (IntKind.u8.wrap
 (IntKind.i64.wrap
 (↑(BitVec.ofInt IntKind.i64.bits
 (rd
 (Glo.mk (0 : Nat) Ty.two
 [Tw.mk (0 : Int) (0 : Int), Tw.mk (0 : Int) (0 : Int),
 Tw.mk (192 : Int) (128 : Int), Tw.mk (224 : Int) (2048 : Int),
 Tw.mk (240 : Int) (65536 : Int)]).t
 (Glo.mk (0 : Nat) Ty.two
 [Tw.mk (0 : Int) (0 : Int), Tw.mk (0 : Int) (0 : Int),
 Tw.mk (192 : Int) (128 : Int), Tw.mk (224 : Int) (2048 : Int),
 Tw.mk (240 : Int) (65536 : Int)]).xs
 (2 : Int)).a |||
 BitVec.ofInt IntKind.i64.bits (2 : Int)).toNat :
 Int)))))]
 [] [])))))))) := by kernel_rfl
theorem vcEscF (s : ByteArray) (Q : List AV → List Blk → List Blk → Prop) : (funA cxEsc (LL Tryz.f142 []) Tryz.f142 [.str s, .bool true] [] [] Q) = (
Rq
 (s.size ≤ (4000000000 : Nat) ∧
 (1 : Nat) ≤ (ByteArray.mk (Array.mk [(38 : UInt8)])).size ∧
 (ByteArray.mk (Array.mk [(38 : UInt8), (97 : UInt8), (109 : UInt8), (112 : UInt8), (59 : UInt8)])).size ≤
 (16 : Nat))
 (Rq ((160 : Int) = (160 : Int))
 (Rq
 ((repS s (ByteArray.mk (Array.mk [(38 : UInt8)]))
 (ByteArray.mk (Array.mk [(38 : UInt8), (97 : UInt8), (109 : UInt8), (112 : UInt8), (59 : UInt8)]))).size ≤
 (4000000000 : Nat) ∧
 (1 : Nat) ≤ (ByteArray.mk (Array.mk [(194 : UInt8), (160 : UInt8)])).size ∧
 (ByteArray.mk
 (Array.mk
 [(38 : UInt8), (110 : UInt8), (98 : UInt8), (115 : UInt8), (112 : UInt8), (59 : UInt8)])).size ≤
 (16 : Nat))
 (Rq
 ((repS
 (repS s (ByteArray.mk (Array.mk [(38 : UInt8)]))
 (ByteArray.mk (Array.mk [(38 : UInt8), (97 : UInt8), (109 : UInt8), (112 : UInt8), (59 : UInt8)])))
 (ByteArray.mk (Array.mk [(194 : UInt8), (160 : UInt8)]))
 (ByteArray.mk
 (Array.mk
 [(38 : UInt8), (110 : UInt8), (98 : UInt8), (115 : UInt8), (112 : UInt8), (59 : UInt8)]))).size ≤
 (4000000000 : Nat) ∧
 (1 : Nat) ≤ (ByteArray.mk (Array.mk [(60 : UInt8)])).size ∧
 (ByteArray.mk (Array.mk [(38 : UInt8), (108 : UInt8), (116 : UInt8), (59 : UInt8)])).size ≤ (16 : Nat))
 (Rq
 ((repS
 (repS
 (repS s (ByteArray.mk (Array.mk [(38 : UInt8)]))
 (ByteArray.mk
 (Array.mk [(38 : UInt8), (97 : UInt8), (109 : UInt8), (112 : UInt8), (59 : UInt8)])))
 (ByteArray.mk (Array.mk [(194 : UInt8), (160 : UInt8)]))
 (ByteArray.mk
 (Array.mk
 [(38 : UInt8), (110 : UInt8), (98 : UInt8), (115 : UInt8), (112 : UInt8), (59 : UInt8)])))
 (ByteArray.mk (Array.mk [(60 : UInt8)]))
 (ByteArray.mk (Array.mk [(38 : UInt8), (108 : UInt8), (116 : UInt8), (59 : UInt8)]))).size ≤
 (4000000000 : Nat) ∧
 (1 : Nat) ≤ (ByteArray.mk (Array.mk [(62 : UInt8)])).size ∧
 (ByteArray.mk (Array.mk [(38 : UInt8), (103 : UInt8), (116 : UInt8), (59 : UInt8)])).size ≤ (16 : Nat))
 (Br true
 (Rq
 ((repS
 (repS
 (repS
 (repS s (ByteArray.mk (Array.mk [(38 : UInt8)]))
 (ByteArray.mk
 (Array.mk [(38 : UInt8), (97 : UInt8), (109 : UInt8), (112 : UInt8), (59 : UInt8)])))
 (ByteArray.mk (Array.mk [(194 : UInt8), (160 : UInt8)]))
 (ByteArray.mk
 (Array.mk
 [(38 : UInt8), (110 : UInt8), (98 : UInt8), (115 : UInt8), (112 : UInt8), (59 : UInt8)])))
 (ByteArray.mk (Array.mk [(60 : UInt8)]))
 (ByteArray.mk (Array.mk [(38 : UInt8), (108 : UInt8), (116 : UInt8), (59 : UInt8)])))
 (ByteArray.mk (Array.mk [(62 : UInt8)]))
 (ByteArray.mk (Array.mk [(38 : UInt8), (103 : UInt8), (116 : UInt8), (59 : UInt8)]))).size ≤
 (4000000000 : Nat) ∧
 (1 : Nat) ≤ (ByteArray.mk (Array.mk [(34 : UInt8)])).size ∧
 (ByteArray.mk
 (Array.mk
 [(38 : UInt8), (113 : UInt8), (117 : UInt8), (111 : UInt8), (116 : UInt8),
 (59 : UInt8)])).size ≤
 (16 : Nat))
 (Q
 [AV.str
 (repS
 (repS
 (repS
 (repS
 (repS s (ByteArray.mk (Array.mk [(38 : UInt8)]))
 (ByteArray.mk
 (Array.mk [(38 : UInt8), (97 : UInt8), (109 : UInt8), (112 : UInt8), (59 : UInt8)])))
 (ByteArray.mk (Array.mk [(194 : UInt8), (160 : UInt8)]))
 (ByteArray.mk
 (Array.mk
 [(38 : UInt8), (110 : UInt8), (98 : UInt8), (115 : UInt8), (112 : UInt8),
 (59 : UInt8)])))
 (ByteArray.mk (Array.mk [(60 : UInt8)]))
 (ByteArray.mk (Array.mk [(38 : UInt8), (108 : UInt8), (116 : UInt8), (59 : UInt8)])))
 (ByteArray.mk (Array.mk [(62 : UInt8)]))
 (ByteArray.mk (Array.mk [(38 : UInt8), (103 : UInt8), (116 : UInt8), (59 : UInt8)])))
 (ByteArray.mk (Array.mk [(34 : UInt8)]))
 (ByteArray.mk
 (Array.mk
 [(38 : UInt8), (113 : UInt8), (117 : UInt8), (111 : UInt8), (116 : UInt8), (59 : UInt8)])))]
 [] []))
 (Q
 [AV.str
 (repS
 (repS
 (repS
 (repS s (ByteArray.mk (Array.mk [(38 : UInt8)]))
 (ByteArray.mk
 (Array.mk [(38 : UInt8), (97 : UInt8), (109 : UInt8), (112 : UInt8), (59 : UInt8)])))
 (ByteArray.mk (Array.mk [(194 : UInt8), (160 : UInt8)]))
 (ByteArray.mk
 (Array.mk
 [(38 : UInt8), (110 : UInt8), (98 : UInt8), (115 : UInt8), (112 : UInt8), (59 : UInt8)])))
 (ByteArray.mk (Array.mk [(60 : UInt8)]))
 (ByteArray.mk (Array.mk [(38 : UInt8), (108 : UInt8), (116 : UInt8), (59 : UInt8)])))
 (ByteArray.mk (Array.mk [(62 : UInt8)]))
 (ByteArray.mk (Array.mk [(38 : UInt8), (103 : UInt8), (116 : UInt8), (59 : UInt8)])))]
 [] []))))))) := by kernel_rfl
theorem vcOpnB (t : ByteArray) (a : List At) (m i : Int) (K : Ex → List AV → List Blk → Prop) : (bodyA cxOpn (LL Tryz.f129 [lsOpn]) Tryz.f129.ntmps (loopAt Tryz.f129 0).1 (loopAt Tryz.f129 0).2 lsOpn.keep lsOpn.left K [.ptr 0 0, .row .attr a, .row .attr a, .int .i64 m, .int .i64 i] [.bld t]) = (
Br (decide (i < m))
 (Rq ((0 : Int) ≤ i ∧ i < (↑a.length : Int))
 (Br (!nameB (rd Ty.attr a i).1)
 (K Ex.ret
 [AV.ptr (0 : Nat) (0 : Nat), AV.row Ty.attr a, AV.str (ByteArray.mk (Array.mk [])),
 AV.int IntKind.i64 (4 : Int)]
 [Blk.bld t])
 (Br (!goodB (rd Ty.attr a i).2)
 (K Ex.ret
 [AV.ptr (0 : Nat) (0 : Nat), AV.row Ty.attr a, AV.str (ByteArray.mk (Array.mk [])),
 AV.int IntKind.i64 (4 : Int)]
 [Blk.bld t])
 (Rq ((ByteArray.mk (Array.mk [(32 : UInt8)])).size + (rd Ty.attr a i).1.size ≤ maxSl)
 (Rq
 ((ByteArray.mk (Array.mk [(32 : UInt8)]) ++ (rd Ty.attr a i).1).size +
 (ByteArray.mk (Array.mk [(61 : UInt8), (34 : UInt8)])).size ≤
 maxSl)
 (Rq (true = true ∧ (rd Ty.attr a i).2.size ≤ (1000000 : Nat))
 (Rq
 ((ByteArray.mk (Array.mk [(32 : UInt8)]) ++ (rd Ty.attr a i).1 ++
 ByteArray.mk (Array.mk [(61 : UInt8), (34 : UInt8)])).size +
 (escQ (rd Ty.attr a i).2).size ≤
 maxSl)
 (Rq
 ((ByteArray.mk (Array.mk [(32 : UInt8)]) ++ (rd Ty.attr a i).1 ++
 ByteArray.mk (Array.mk [(61 : UInt8), (34 : UInt8)]) ++
 escQ (rd Ty.attr a i).2).size +
 (ByteArray.mk (Array.mk [(34 : UInt8)])).size ≤
 maxSl)
 (Rq
 (t.size +
 (ByteArray.mk (Array.mk [(32 : UInt8)]) ++ (rd Ty.attr a i).1 ++
 ByteArray.mk (Array.mk [(61 : UInt8), (34 : UInt8)]) ++
 escQ (rd Ty.attr a i).2 ++
 ByteArray.mk (Array.mk [(34 : UInt8)])).size ≤
 maxSl)
 (K Ex.norm
 [AV.ptr (0 : Nat) (0 : Nat), AV.row Ty.attr a, AV.row Ty.attr a, AV.int IntKind.i64 m,
 AV.int IntKind.i64 (IntKind.i64.wrap (i + (1 : Int)))]
 [Blk.bld
 (t ++
 (ByteArray.mk (Array.mk [(32 : UInt8)]) ++ (rd Ty.attr a i).1 ++
 ByteArray.mk (Array.mk [(61 : UInt8), (34 : UInt8)]) ++
 escQ (rd Ty.attr a i).2 ++
 ByteArray.mk (Array.mk [(34 : UInt8)])))]))))))))))
 (K (Ex.exit (0 : Nat)) [AV.ptr (0 : Nat) (0 : Nat), AV.row Ty.attr a, AV.any, AV.any] [Blk.bld t])) := by kernel_rfl
theorem vcOpnF (m : ByteArray) (a : List At) (Q : List AV → List Blk → List Blk → Prop) : (funA cxOpn (LL Tryz.f129 [lsOpn]) Tryz.f129 [.str m, .row .attr a] [] [] Q) = (
Br (!nameB m) (Q [AV.str (ByteArray.mk (Array.mk [])), AV.int IntKind.i64 (4 : Int)] [] [])
 (Rq ((ByteArray.mk (Array.mk [(60 : UInt8)])).size + m.size ≤ maxSl)
 (Rq ((ByteArray.mk (Array.mk [])).size + (ByteArray.mk (Array.mk [(60 : UInt8)]) ++ m).size ≤ maxSl)
 (Gv (a.length ≤ maxSl)
 (Rq
 (a = a ∧
 (↑a.length : Int) = (↑a.length : Int) ∧
 (0 : Int) = (0 : Int) ∧
 oBnd a ∧
 (ByteArray.mk (Array.mk []) ++ (ByteArray.mk (Array.mk [(60 : UInt8)]) ++ m)).size ≤ (100 : Nat))
 (Br (a.all okA)
 (Br (twiceB a) (Q [AV.str (ByteArray.mk (Array.mk [])), AV.int IntKind.i64 (8 : Int)] [] [])
 (Gv (a.length ≤ maxSl)
 (Br (decide ((↑a.length : Int) > (12 : Int)))
 (Q [AV.str (ByteArray.mk (Array.mk [])), AV.int IntKind.i64 (2 : Int)] [] [])
 (Rq
 ((opF (ByteArray.mk (Array.mk []) ++ (ByteArray.mk (Array.mk [(60 : UInt8)]) ++ m)) a).size +
 (1 : Nat) ≤
 maxSl ∧
 (0 : Int) ≤ (62 : Int) ∧ (62 : Int) < (256 : Int))
 (Rq
 ((opF (ByteArray.mk (Array.mk []) ++ (ByteArray.mk (Array.mk [(60 : UInt8)]) ++ m)) a ++
 strOf [(62 : Int)]).size ≤
 maxSl)
 (Q
 [AV.str
 (opF (ByteArray.mk (Array.mk []) ++ (ByteArray.mk (Array.mk [(60 : UInt8)]) ++ m)) a ++
 strOf [(62 : Int)]),
 AV.int IntKind.i64 (0 : Int)]
 [] []))))))
 (Q [AV.str (ByteArray.mk (Array.mk [])), AV.int IntKind.i64 (4 : Int)] [] []))))))) := by kernel_rfl
end Go.Proofs.YtnhipiedjekkpaaGreatDoor.AX
end
section
namespace Go.Proofs.YtnhipiedjekkpaaGreatDoor.AXP
open Go Go.Proofs.YtnhipiedjekkpaaGreatDoor.AX
theorem eqS_sym (a b : ByteArray) : eqS a b = eqS b a := by
  rw [Bool.eq_iff_iff, eqS_iff, eqS_iff]; exact eq_comm
theorem twice_snoc : ∀ (l : List At) (a : At), twiceB (l ++ [a]) = (twiceB l || l.any fun b => eqS a.name b.name)
  | [], a => rfl
  | b :: l, a => by
    rw [List.cons_append, twiceB, twiceB, twice_snoc l a, List.any_append, List.any_cons, List.any_cons, List.any_nil, Bool.or_false, eqS_sym b.name a.name]
    cases l.any (fun b_1 => eqS b.name b_1.name) <;> cases eqS a.name b.name <;> cases twiceB l <;> cases l.any (fun b => eqS a.name b.name) <;> rfl
theorem rd_atA {l : List At} {i : Nat} (h : i < l.length) : rd Ty.attr l (i : Int) = l[i] := rd_at h
theorem twI_eq {l : List At} {i : Nat} (h : i < l.length) : twiceB (l.take (i + 1)) = (twiceB (l.take i) || twI l i) := by
  unfold twI
  rw [← take_snoc h, twice_snoc, Int.toNat_natCast, rd_atA h]
theorem twice_app : ∀ (a b : List At), twiceB a = true → twiceB (a ++ b) = true
  | [], b, h => by cases h
  | x :: a, b, h => by
    rw [List.cons_append, twiceB, List.any_append]
    rw [twiceB] at h
    rw [Bool.or_eq_true] at h
    rcases h with h | h
    · rw [h]; rfl
    · rw [twice_app a b h, Bool.or_true]
theorem escQ_le (s : ByteArray) : (escQ s).size ≤ 7350 * s.size := by
  unfold escQ
  have h1 := repS_le (s := s) (p := ⟨#[38]⟩) (q := ⟨#[38, 97, 109, 112, 59]⟩) (Nat.le_refl 1)
  generalize repS s ⟨#[38]⟩ ⟨#[38, 97, 109, 112, 59]⟩ = s1 at *
  have h2 := repS_le (s := s1) (p := ⟨#[194, 160]⟩) (q := ⟨#[38, 110, 98, 115, 112, 59]⟩) (show 1 ≤ 2 by decide)
  generalize repS s1 ⟨#[194, 160]⟩ ⟨#[38, 110, 98, 115, 112, 59]⟩ = s2 at *
  have h3 := repS_le (s := s2) (p := ⟨#[60]⟩) (q := ⟨#[38, 108, 116, 59]⟩) (Nat.le_refl 1)
  generalize repS s2 ⟨#[60]⟩ ⟨#[38, 108, 116, 59]⟩ = s3 at *
  have h4 := repS_le (s := s3) (p := ⟨#[62]⟩) (q := ⟨#[38, 103, 116, 59]⟩) (Nat.le_refl 1)
  generalize repS s3 ⟨#[62]⟩ ⟨#[38, 103, 116, 59]⟩ = s4 at *
  have h5 := repS_le (s := s4) (p := ⟨#[34]⟩) (q := ⟨#[38, 113, 117, 111, 116, 59]⟩) (Nat.le_refl 1)
  change s1.size ≤ s.size + s.size * 5 at h1
  change s2.size ≤ s1.size + s1.size * 6 at h2
  change s3.size ≤ s2.size + s2.size * 4 at h3
  change s4.size ≤ s3.size + s3.size * 4 at h4
  change _ ≤ s4.size + s4.size * 6 at h5
  omega
theorem okA_iff {x : At} : okA x = true ↔ nameB x.name = true ∧ goodB x.value = true := by unfold okA; rw [Bool.and_eq_true]
theorem nameB_le {s : ByteArray} (h : nameB s = true) : s.size ≤ 24 := by
  unfold nameB at h
  simp only [Bool.and_eq_true, decide_eq_true_eq] at h
  exact h.1.1.2
theorem atO_size (x : At) : (atO x).size = 1 + x.name.size + 2 + (escQ x.value).size + 1 := by
  unfold atO
  simp only [ByteArray.size_append]; rfl
theorem opF_app : ∀ {l : List At} {t : ByteArray} (r : List At), l.all okA = true → opF t (l ++ r) = opF (opF t l) r
  | [], t, r, _ => rfl
  | x :: l, t, r, h => by
    rw [List.all_cons, Bool.and_eq_true] at h
    rw [List.cons_append, opF, opF, if_pos h.1, if_pos h.1, opF_app r h.2]
theorem opF_le : ∀ (l : List At) (t : ByteArray), (∀ x ∈ l, x.value.size ≤ 1000000) → (opF t l).size ≤ t.size + l.length * 7350000028
  | [], t, _ => by rw [opF]; omega
  | x :: l, t, h => by
    rw [opF]
    split
    · rename_i hx
      have h1 := opF_le l (t ++ atO x) fun y hy => h y (.tail _ hy)
      have h2 := nameB_le (okA_iff.1 hx).1
      have h3 := escQ_le x.value
      have h4 := h x (.head _)
      rw [ByteArray.size_append, atO_size] at h1
      rw [List.length_cons]; omega
    · omega
theorem wrong_all (a : List At) : (a.any fun x => !(nameB x.name && goodB x.value)) = !(a.all okA) := by
  induction a with
  | nil => rfl
  | cons x l ih => rw [List.any_cons, List.all_cons, ih]; show (!okA x || !l.all okA) = _; rw [Bool.not_and]
end Go.Proofs.YtnhipiedjekkpaaGreatDoor.AXP
namespace Go.Proofs.YtnhipiedjekkpaaGreatDoor.AX
open Go AXP
set_option maxRecDepth 100000
theorem twO_sum : SumOK cxTw (LL Tryz.f143 [lsTwO, lsTwI]) Tryz.f143.ntmps (loopAt Tryz.f143 0).1 (loopAt Tryz.f143 0).2 lsTwO := by
  intro vs bs K hs
  unfold lsTwO at hs
  simp only at hs
  split at hs
  case h_2 => exact hs.elim
  rename_i l m i
  rcases (show ∃ w : List At, w = l from ⟨_, rfl⟩) with ⟨l, rfl⟩
  obtain ⟨⟨rfl, rfl, hm⟩, h⟩ := hs
  refine sum_rec (σ := Nat) (fun i => [.row .attr l, .int .i64 l.length, .int .i64 (i : Nat)]) (fun _ => []) (fun i => i ≤ l.length ∧ twiceB (l.take i) = false) (fun i => l.length - i) ?_ 0 ⟨Nat.zero_le _, rfl⟩
  rintro i ⟨hi, ht⟩ R hR
  refine Eq.mpr (vcTwO l l.length i _) ⟨fun h1 => ?_, fun h1 => ?_⟩
  · have hlt : i < l.length := by have := of_decide_eq_true h1; omega
    have e := twI_eq hlt
    rw [ht, Bool.false_or] at e
    refine Rq.mk ⟨rfl, rfl, by omega, by omega, hm⟩ ⟨fun h2 => h.yes ?_, fun h2 => ?_⟩
    · rw [h2] at e
      have := twice_app _ (l.drop (i + 1)) e
      rwa [List.take_append_drop] at this
    · rw [wrap_succ hlt hm]
      exact hR (i + 1) ⟨hlt, by rw [e, h2]⟩ (by omega)
  · have : i = l.length := by have := of_decide_eq_false h1; omega
    subst this
    rw [List.take_length] at ht
    exact h.no ht
theorem twIn_sum : SumOK cxTw (LL Tryz.f143 [lsTwO, lsTwI]) Tryz.f143.ntmps (loopAt Tryz.f143 1).1 (loopAt Tryz.f143 1).2 lsTwI := by
  intro vs bs K hs
  unfold lsTwI at hs
  simp only at hs
  split at hs
  case h_2 => exact hs.elim
  rename_i l i m j n k
  rcases (show ∃ w : List At, w = l from ⟨_, rfl⟩) with ⟨l, rfl⟩
  obtain ⟨⟨rfl, rfl, h0, hl, hm⟩, h⟩ := hs
  obtain ⟨i, rfl⟩ := Int.eq_ofNat_of_zero_le h0
  have hl : i < l.length := by omega
  refine sum_rec (σ := Nat) (fun k => [.row .attr l, .int .i64 i, .int .i64 m, .int .i64 j, .int .i64 i, .int .i64 (k : Nat)]) (fun _ => []) (fun k => k ≤ i ∧ ((l.take k).any fun b => eqS (rd Ty.attr l i).name b.name) = false) (fun k => i - k) ?_ 0 ⟨Nat.zero_le _, rfl⟩
  rintro k ⟨hk, ht⟩ R hR
  refine Eq.mpr (vcTwI l i m j i k _) ⟨fun h1 => ?_, fun h1 => ?_⟩
  · have hlt : k < i := by have := of_decide_eq_true h1; omega
    have hkl : k < l.length := by omega
    have e : ((l.take (k + 1)).any fun b => eqS (rd Ty.attr l i).name b.name) = eqS (rd Ty.attr l i).name (rd Ty.attr l k).name := by
      rw [← take_snoc hkl, List.any_append, ht, Bool.false_or, List.any_cons, List.any_nil, Bool.or_false, rd_atA hkl]
    refine Rq.mk ⟨by omega, by omega⟩ (Rq.mk ⟨by omega, by omega⟩ ⟨fun h2 => h.yes ?_, fun h2 => ?_⟩)
    · unfold twI
      rw [Int.toNat_natCast, List.any_eq_true]
      have h2 : eqS (rd Ty.attr l i).name (rd Ty.attr l k).name = true := h2
      rw [h2, List.any_eq_true] at e
      obtain ⟨x, hx, q⟩ := e
      exact ⟨x, (List.take_sublist_take_left (show k + 1 ≤ i by omega)).subset hx, q⟩
    · rw [wrap_succ hkl hm]
      exact hR (k + 1) ⟨by omega, e.trans h2⟩ (by omega)
  · have : k = i := by have := of_decide_eq_false h1; omega
    subst this
    exact h.no (by unfold twI; rw [Int.toNat_natCast]; exact ht)
theorem tw_holds : Holds 143 conTw := conP_holds fun l => by
  refine fun_meets2 tok0 [] lsTwO lsTwI (by kernel_rfl) (by kernel_rfl) twO_sum twIn_sum fun _ => Eq.mpr (vcTwF l _) ?_
  have e : ∀ b, twiceB l = b → [AV.bool b] = compsOf (.bool (twiceB l)) := fun b h => by rw [h]; rfl
  exact ⟨fun hm => Rq.mk ⟨rfl, rfl, hm⟩ ⟨fun h => qfin rfl (e _ h) rfl rfl, fun h => qfin rfl (e _ h) rfl rfl⟩⟩
theorem siz_sum : SumOK cxTw (LL Tryz.f160 [lsSiz]) Tryz.f160.ntmps (loopAt Tryz.f160 0).1 (loopAt Tryz.f160 0).2 lsSiz := by
  intro vs bs K hs
  unfold lsSiz at hs
  simp only at hs
  split at hs
  case h_2 => exact hs.elim
  obtain ⟨⟨rfl, rfl⟩, h⟩ := hs
  refine sum_rec (σ := Nat) (fun n => [.int .i64 160, .int .i64 ((n + 2 : Nat) : Int)]) (fun _ => []) (fun n => n ≤ 2) (fun n => n) ?_ 2 (Nat.le_refl _)
  intro n hn R hR
  obtain rfl | rfl | rfl : n = 0 ∨ n = 1 ∨ n = 2 := by omega
  · refine Eq.mpr (vcSizB 160 2 _) (Rq.mk ⟨by decide, by decide⟩ ⟨fun h1 => absurd h1 (by decide), fun _ => h⟩)
  · refine Eq.mpr (vcSizB 160 3 _) (Rq.mk ⟨by decide, by decide⟩ ⟨fun _ => hR 0 (by decide) (by decide), fun h1 => absurd h1 (by decide)⟩)
  · refine Eq.mpr (vcSizB 160 4 _) (Rq.mk ⟨by decide, by decide⟩ ⟨fun _ => hR 1 (by decide) (by decide), fun h1 => absurd h1 (by decide)⟩)
theorem siz_holds : Holds 160 conSiz := conP_holds fun c => by
  intro F I w vals hH hv hpre
  obtain rfl : c = (160 : Int) := hpre _ rfl
  exact fun_meets1 tok0 [] lsSiz (by kernel_rfl) (by kernel_rfl) siz_sum (fun _ => Eq.mpr (vcSizF _) (Rq.mk ⟨rfl, rfl⟩ (qfin rfl rfl rfl rfl))) F I w vals hH hv hpre
theorem byt_sum : SumOK cxByt (LL Tryz.f153 [lsByt]) Tryz.f153.ntmps (loopAt Tryz.f153 0).1 (loopAt Tryz.f153 0).2 lsByt := by
  intro vs bs K hs
  unfold lsByt at hs
  simp only at hs
  split at hs
  case h_2 => exact hs.elim
  rename_i xs
  obtain ⟨⟨rfl, rfl, rfl, hx⟩, h⟩ := hs
  subst hx
  refine sum_rec (σ := Bool) (fun b => [.int .i64 (if b then 160 else 2), .int .i64 2, .own 0 0, .int .i64 (if b then 1 else 0)]) (fun b => [.rowb 0 .u8 (if b then [(0 : Int), 0] else [(0 : Int), 160])]) (fun _ => True) (fun b => if b then 1 else 0) ?_ true trivial
  rintro (_ | _) _ R hR
  · exact Eq.mpr (vcBytB 2 2 0 [(0 : Int), 160] _) ⟨fun h1 => absurd h1 (by decide), fun _ => h⟩
  · refine Eq.mpr (vcBytB 160 2 1 [(0 : Int), 0] _) ⟨fun _ => Rq.mk ⟨by decide, by decide⟩ (Rq.mk (by decide) ?_), fun h1 => absurd h1 (by decide)⟩
    have e1 : IntKind.u8.wrap (IntKind.i64.wrap (↑(BitVec.ofInt IntKind.i64.bits (128 : Int) ||| BitVec.ofInt IntKind.i64.bits (IntKind.i64.wrap (↑(BitVec.ofInt IntKind.i64.bits (160 : Int) &&& BitVec.ofInt IntKind.i64.bits (63 : Int)).toNat : Int))).toNat : Int)) = 160 := by decide +kernel
    have e2 : (160 : Int).fdiv ((2 : Int) ^ min (Int.toNat (6 : Int)) IntKind.i64.bits) = 2 := by decide +kernel
    rw [e1, e2]
    exact hR false trivial (by decide)
theorem byt_holds : Holds 153 conByt := conP_holds fun c => by
  intro F I w vals hH hv hpre
  obtain rfl : c = (160 : Int) := hpre _ rfl
  refine fun_meets1 (AllH.tok (.cons isU_holds (by kernel_rfl) (.cons siz_holds (by kernel_rfl) .nil))) [] lsByt (by kernel_rfl) (by kernel_rfl) byt_sum (fun _ => Eq.mpr (vcBytF _) ⟨fun h => absurd h (by decide), fun _ => ?_⟩) F I w vals hH hv hpre
  refine Rq.mk rfl (Rq.mk ⟨by decide, by decide⟩ (Rq.mk ⟨rfl, rfl, by decide, rfl⟩ (Rq.mk ⟨by decide, by decide⟩ (Rq.mk ⟨by decide, by decide⟩ (Rq.mk ?_ (qfin rfl ?_ rfl rfl))))))
  · show 2 ≤ maxSl
    decide
  · kernel_rfl
theorem esc_holds : Holds 142 conEsc := conP_holds fun s v => by
  rcases (show ∃ w : ByteArray, w = s from ⟨_, rfl⟩) with ⟨s, rfl⟩
  intro F I w vals hH hv hpre
  obtain ⟨rfl, hs⟩ : v = true ∧ s.size ≤ 1000000 := hpre _ rfl
  refine fun_meets0 (AllH.tok (.cons repl_holds (by kernel_rfl) (.cons byt_holds (by kernel_rfl) .nil))) [] (by kernel_rfl) (by kernel_rfl) (fun _ => Eq.mpr (vcEscF s _) ?_) F I w vals hH hv hpre
  have h1 := repS_le (s := s) (p := ⟨#[38]⟩) (q := ⟨#[38, 97, 109, 112, 59]⟩) (Nat.le_refl 1)
  have h2 := repS_le (s := repS s ⟨#[38]⟩ ⟨#[38, 97, 109, 112, 59]⟩) (p := ⟨#[194, 160]⟩) (q := ⟨#[38, 110, 98, 115, 112, 59]⟩) (show 1 ≤ 2 by decide)
  have h3 := repS_le (s := repS (repS s ⟨#[38]⟩ ⟨#[38, 97, 109, 112, 59]⟩) ⟨#[194, 160]⟩ ⟨#[38, 110, 98, 115, 112, 59]⟩) (p := ⟨#[60]⟩) (q := ⟨#[38, 108, 116, 59]⟩) (Nat.le_refl 1)
  have h4 := repS_le (s := repS (repS (repS s ⟨#[38]⟩ ⟨#[38, 97, 109, 112, 59]⟩) ⟨#[194, 160]⟩ ⟨#[38, 110, 98, 115, 112, 59]⟩) ⟨#[60]⟩ ⟨#[38, 108, 116, 59]⟩) (p := ⟨#[62]⟩) (q := ⟨#[38, 103, 116, 59]⟩) (Nat.le_refl 1)
  have z5 : (ByteArray.mk #[38, 97, 109, 112, 59]).size = 5 := rfl
  have z6 : (ByteArray.mk #[38, 110, 98, 115, 112, 59]).size = 6 := rfl
  have z4 : (ByteArray.mk #[38, 108, 116, 59]).size = 4 := rfl
  have z4' : (ByteArray.mk #[38, 103, 116, 59]).size = 4 := rfl
  rw [z5] at h1; rw [z6] at h2; rw [z4] at h3; rw [z4'] at h4
  have c0 : s.size ≤ 4000000000 := by omega
  have c1 := Nat.le_trans h1 (show s.size + s.size * 5 ≤ 4000000000 by omega)
  have c2 := Nat.le_trans h2 (show _ + _ * 6 ≤ 4000000000 by omega)
  have c3 := Nat.le_trans h3 (show _ + _ * 4 ≤ 4000000000 by omega)
  have c4 := Nat.le_trans h4 (show _ + _ * 4 ≤ 4000000000 by omega)
  exact Rq.mk ⟨c0, by decide, by decide⟩ (Rq.mk rfl (Rq.mk ⟨c1, by decide, by decide⟩ (Rq.mk ⟨c2, by decide, by decide⟩ (Rq.mk ⟨c3, by decide, by decide⟩ ⟨fun _ => Rq.mk ⟨c4, by decide, by decide⟩ (qfin rfl rfl rfl rfl), fun h => absurd h (by decide)⟩))))
theorem opn_sum : SumOK cxOpn (LL Tryz.f129 [lsOpn]) Tryz.f129.ntmps (loopAt Tryz.f129 0).1 (loopAt Tryz.f129 0).2 lsOpn := by
  intro vs bs K hs
  unfold lsOpn at hs
  simp only at hs
  split at hs
  case h_2 => exact hs.elim
  rename_i a a' m i t
  rcases (show ∃ w : List At, w = a from ⟨_, rfl⟩) with ⟨a, rfl⟩
  obtain ⟨⟨ea, rfl, rfl, ⟨hl, hv⟩, ht⟩, h⟩ := hs
  have ea : a = a' := ea.symm
  subst ea
  have hm : a.length ≤ maxSl := by unfold maxSl; omega
  refine sum_rec (σ := Nat) (fun i => [.ptr 0 0, .row .attr a, .row .attr a, .int .i64 a.length, .int .i64 (i : Nat)]) (fun i => [.bld (opF t (a.take i))]) (fun i => i ≤ a.length ∧ (a.take i).all okA = true) (fun i => a.length - i) ?_ 0 ⟨Nat.zero_le _, rfl⟩
  rintro i ⟨hi, hall⟩ R hR
  refine Eq.mpr (vcOpnB _ a a.length i _) ⟨fun h1 => ?_, fun h1 => ?_⟩
  · have hlt : i < a.length := by have := of_decide_eq_true h1; omega
    rw [rd_atA hlt]
    have split : a.take i ++ a[i] :: a.drop (i + 1) = a := by rw [← List.drop_eq_getElem_cons hlt, List.take_append_drop]
    have bad : okA a[i] = false → K .ret [.ptr 0 0, .row .attr a, .str ⟨#[]⟩, .int .i64 4] [.bld (opF t (a.take i))] := fun hb => by
      have e : opF t a = opF t (a.take i) := by
        have q := opF_app (t := t) (a[i] :: a.drop (i + 1)) hall
        rw [split, opF, if_neg (by rw [hb]; decide)] at q
        exact q
      have := h.no (List.all_eq_false.2 ⟨_, List.getElem_mem hlt, by rw [hb]; decide⟩)
      rwa [e] at this
    refine Rq.mk ⟨by omega, by omega⟩ ⟨fun h2 => bad ?_, fun h2 => ⟨fun h3 => bad ?_, fun h3 => ?_⟩⟩
    · have h2 : nameB a[i].name = false := by simpa using h2
      unfold okA; rw [h2]; rfl
    · have h3 : goodB a[i].value = false := by simpa using h3
      unfold okA; rw [h3, Bool.and_false]
    · have h2 : nameB a[i].name = true := by simpa using h2
      have h3 : goodB a[i].value = true := by simpa using h3
      have hok : okA a[i] = true := okA_iff.2 ⟨h2, h3⟩
      have b1 := nameB_le h2
      have b2 := hv _ (List.getElem_mem hlt)
      have b3 := escQ_le a[i].2
      have b4 := opF_le (a.take i) t fun x hx => hv x (List.mem_of_mem_take hx)
      rw [List.length_take] at b4
      have e : opF t (a.take (i + 1)) = opF t (a.take i) ++ atO a[i] := by rw [← take_snoc hlt, opF_app _ hall, opF, if_pos hok]; rfl
      have s1 : (ByteArray.mk (Array.mk [(32 : UInt8)])).size = 1 := rfl
      have s2 : (ByteArray.mk (Array.mk [(61 : UInt8), (34 : UInt8)])).size = 2 := rfl
      have s3 : (ByteArray.mk (Array.mk [(34 : UInt8)])).size = 1 := rfl
      have hmx : maxSl = 140737488355328 := rfl
      change a[i].1.size ≤ 24 at b1
      change a[i].2.size ≤ 1000000 at b2
      refine Rq.mk ?_ (Rq.mk ?_ (Rq.mk ⟨rfl, b2⟩ (Rq.mk ?_ (Rq.mk ?_ (Rq.mk ?_ ?_)))))
      · rw [s1]; omega
      · rw [ByteArray.size_append, s1, s2]; omega
      · simp only [ByteArray.size_append, s1, s2]; omega
      · simp only [ByteArray.size_append, s1, s2, s3]; omega
      · simp only [ByteArray.size_append, s1, s2, s3]; omega
      rw [wrap_succ hlt hm]
      have := hR (i + 1) ⟨hlt, by rw [← take_snoc hlt, List.all_append, hall, List.all_cons, hok]; rfl⟩ (by omega)
      rw [e] at this
      exact this
  · have : i = a.length := by have := of_decide_eq_false h1; omega
    subst this
    rw [List.take_length] at hall ⊢
    exact h.yes hall
theorem opn_holds : Holds 129 conOpn := conP_holds fun m a => by
  rcases (show ∃ w : ByteArray, w = m from ⟨_, rfl⟩) with ⟨m, rfl⟩
  rcases (show ∃ w : List At, w = a from ⟨_, rfl⟩) with ⟨a, rfl⟩
  refine fun_meets1 (AllH.tok (.cons nameP_holds (by kernel_rfl) (.cons goodP_holds (by kernel_rfl) (.cons esc_holds (by kernel_rfl) (.cons tw_holds (by kernel_rfl) (.cons write_holds (by kernel_rfl) (.cons writeb_holds (by kernel_rfl) (.cons string_holds (by kernel_rfl) .nil)))))))) [] lsOpn (by kernel_rfl) (by kernel_rfl) opn_sum fun hpre => Eq.mpr (vcOpnF m a _) ?_
  obtain ⟨hl, hv⟩ : oBnd a := hpre _ rfl
  have no : ∀ e, wrongE m a = e → e ≠ 0 → [AV.str (ByteArray.mk (Array.mk [])), AV.int IntKind.i64 e] = compsOf (.tup [.str (opS m a), .int .i64 (wrongE m a)]) := fun e h h0 => by
    show _ = [AV.str (opS m a), AV.int .i64 (wrongE m a)]
    unfold opS; rw [h, if_neg h0]
  have hmx : maxSl = 140737488355328 := rfl
  refine ⟨fun h => qfin rfl (no 4 ?_ (by decide)) rfl rfl, fun h => ?_⟩
  · unfold wrongE; rw [if_pos (by simpa using h)]
  have h : nameB m = true := by simpa using h
  have hm := nameB_le h
  have s1 : (ByteArray.mk (Array.mk [(60 : UInt8)])).size = 1 := rfl
  have s0 : (ByteArray.mk (Array.mk [])).size = 0 := rfl
  have hsz : (ByteArray.mk (Array.mk []) ++ (ByteArray.mk (Array.mk [(60 : UInt8)]) ++ m)).size ≤ 100 := by simp only [ByteArray.size_append, s0, s1]; omega
  have ho := opF_le a (ByteArray.mk (Array.mk []) ++ (ByteArray.mk (Array.mk [(60 : UInt8)]) ++ m)) hv
  have hw : wrongE m a = if (!(a.all okA)) = true then 4 else if twiceB a = true then 8 else if (a.length : Int) > 12 then 2 else 0 := by
    unfold wrongE; rw [if_neg (by rw [h]; decide), wrong_all]
  refine Rq.mk (by omega) (Rq.mk (by rw [ByteArray.size_append]; omega) ⟨fun hml => Rq.mk ⟨rfl, rfl, rfl, ⟨hl, hv⟩, hsz⟩ ⟨fun h1 => ⟨fun h2 => qfin rfl (no 8 ?_ (by decide)) rfl rfl, fun h2 => ⟨fun _ => ⟨fun h3 => qfin rfl (no 2 ?_ (by decide)) rfl rfl, fun h3 => Rq.mk ⟨by omega, by decide, by decide⟩ (Rq.mk ?_ (qfin rfl ?_ rfl rfl))⟩⟩⟩, fun h1 => qfin rfl (no 4 ?_ (by decide)) rfl rfl⟩⟩)
  · rw [hw, h1, if_neg (by decide), if_pos h2]
  · rw [hw, h1, if_neg (by decide), if_neg (by rw [h2]; decide), if_pos (of_decide_eq_true h3)]
  · rw [ByteArray.size_append]
    show _ + 1 ≤ _
    omega
  · rw [h1, if_neg (by decide), if_neg (by rw [h2]; decide), if_neg (of_decide_eq_false h3)] at hw
    show _ = [AV.str (opS m a), AV.int .i64 (wrongE m a)]
    unfold opS; rw [hw, if_pos rfl]
  · rw [hw, h1, if_pos (by decide)]
end Go.Proofs.YtnhipiedjekkpaaGreatDoor.AX
end
