/- Functions of the Go text as plain Lean functions, each with a proof that the machine's call comes to what it answers, under the condition that the package-level tables hold what their initialisers lay. Written by a program. -/
import Derived.Test.YtenbdffgnbibeaaDoorProg
import Derived.Below
import Derived.Deep.Draws
import Derived.Deep.AppendLies
import Derived.Maps.AppendAt
import Derived.OwnWalk
import Derived.Laws.BytesArg
import Derived.Laws.MakeOwn
import Derived.Laws.OwnMore
import Derived.Deep.OwnRows
import Derived.Tactics
import Derived.Lib.ConvBytes
import Derived.Laws.Slices
import Derived.WalkKit
import Derived.KernelRfl
import Derived.RowKit3
import Derived.Deep.LoopGhost
import Derived.Deep.QuietTactic
import Derived.BigQuiet
import Derived.WideLaws
import Derived.Deep.DeepCutAuto
import Derived.Deep.CutBlock
import Derived.Deep.RegionHeld3
import Derived.Laws.Rows
import Derived.Lib.AppendStr
import Derived.ArgAppend
import Derived.Laws.IdiomCopy
import Derived.OrdersHeld
import Derived.Laws.BitsLemmas
import Derived.RowKit
import Derived.Test.YtenbdffgnbibeaaDoorWWords
import Derived.Test.YtenbdffgnbibeaaDoorWLast
import Derived.Test.YtenbdffgnbibeaaDoorWTab
import Derived.Test.YtenbdffgnbibeaaDoorWFour
import Derived.Test.YtenbdffgnbibeaaDoorWQPut
import Derived.Test.YtenbdffgnbibeaaDoorWApart
import Derived.Test.YtenbdffgnbibeaaDoorWArr
import Derived.Test.YtenbdffgnbibeaaDoorWZeros
import Derived.Test.YtenbdffgnbibeaaDoorWFoot
import Derived.Test.YtenbdffgnbibeaaDoorWKept
import Derived.Test.YtenbdffgnbibeaaDoorWShare
import Derived.Test.YtenbdffgnbibeaaDoorWN
import Derived.Test.YtenbdffgnbibeaaDoorWFootNe
import Derived.Test.YtenbdffgnbibeaaDoorWAt
import Derived.Test.YtenbdffgnbibeaaDoorWEqStruct
import Derived.Test.YtenbdffgnbibeaaDoorWRepsOne
import Derived.Test.YtenbdffgnbibeaaDoorWInv
import Derived.Test.YtenbdffgnbibeaaDoorWInvWords
import Derived.Test.YtenbdffgnbibeaaDoorWGuard
import Derived.Test.YtenbdffgnbibeaaDoorWNEv
import Derived.Test.YtenbdffgnbibeaaDoorWMore
import Derived.Test.YtenbdffgnbibeaaDoorXBase
namespace Go.Proofs.YtenbdffgnbibeaaDoor.X
open Go.RowKit Go.Proofs.YtenbdffgnbibeaaDoorW.PrintWords Go.Proofs.YtenbdffgnbibeaaDoorW.PrintLast Go.Proofs.YtenbdffgnbibeaaDoorW.PrintMore
attribute [local go_sem] max2_int min2_int max_two min_two max_three min_three max_four min_four   -- for this text's walks alone
set_option linter.unusedVariables false
set_option linter.unusedSimpArgs false



def errW : Option Int → Value
  | none => .nilIface
  | some c => .iface 0 (.int .i64 c)
theorem errW_none : errW none = .nilIface := rfl
theorem errW_some (c : Int) : errW (some c) = .iface 0 (.int .i64 c) := rfl

theorem info5 : (Tryd.prog.info? 5).map (fun i => (i.zero, i.size, i.bytes)) = some (some (.int .u8 0), 1, 1) := by kernel_rfl
-- the values' own types
/-! #### struct type 59 -/
structure S59 where
  f0 : Int
  f1 : Int
def z59 : S59 := ⟨(0 : Int), (0 : Int)⟩
def k59 : Kd S59 := Kd.iso (Kd.pair (Kd.int .i64) (Kd.int .i64)) (fun x : S59 => (x.f0, x.f1))
theorem k59_open {w : World} {x : S59} {cs : List Value} (h : k59.K w x cs) : cs = [.int .i64 x.f0, .int .i64 x.f1] := by
  obtain ⟨_, _, rfl, rfl, rfl⟩ := h
  exact rfl
theorem k59_openM {w : World} {base : Nat} {ok : Nat → Prop} {x : S59} {cs : List Value} (h : k59.M w base ok x cs) : cs = [.int .i64 x.f0, .int .i64 x.f1] := by
  obtain ⟨_, _, rfl, rfl, rfl⟩ := h
  exact rfl
theorem k59_mk (w : World) (x : S59)  : k59.K w x [.int .i64 x.f0, .int .i64 x.f1] := ⟨[.int .i64 x.f0], [.int .i64 x.f1], rfl, rfl, rfl⟩
theorem k59_mkM (w : World) (base : Nat) (ok : Nat → Prop) (x : S59)  : k59.M w base ok x [.int .i64 x.f0, .int .i64 x.f1] := ⟨[.int .i64 x.f0], [.int .i64 x.f1], rfl, rfl, rfl⟩
def rd_T59 (xs : List S59) (i : Int) : S59 := xs.getD i.toNat z59
theorem at_T59 {w : World} {A : Option Addr} {n : Nat} {xs : List S59} (h : Kd.C k59 w A n xs) (i : Int) (h0 : 0 ≤ i) (h1 : i < n) : ∃ ad , A = some ad ∧ w.cell? (ad.add (i.toNat * 2)) = some (.int .i64 (rd_T59 xs i).f0) ∧ w.cell? ⟨(ad.add (i.toNat * 2)).block, (ad.add (i.toNat * 2)).off + 1, none⟩ = some (.int .i64 (rd_T59 xs i).f1) := by
  obtain ⟨ad, c, e, _, hK, hc0⟩ := Kd.C_get h z59 i h0 h1
  have hc : ∀ j u, c[j]? = some u → w.cell? (ad.add (i.toNat * 2 + j)) = some u := hc0
  obtain rfl := k59_open hK
  exact ⟨ad, e, hc 0 _ rfl, by rw [← add_field _ _ 1 (by omega)]; exact hc 1 _ rfl⟩

/-! #### struct type 82 -/
structure S82 where
  f0 : Int
  f1 : Int
def z82 : S82 := ⟨(0 : Int), (0 : Int)⟩
def k82 : Kd S82 := Kd.iso (Kd.pair (Kd.int .i64) (Kd.int .i64)) (fun x : S82 => (x.f0, x.f1))
theorem k82_open {w : World} {x : S82} {cs : List Value} (h : k82.K w x cs) : cs = [.int .i64 x.f0, .int .i64 x.f1] := by
  obtain ⟨_, _, rfl, rfl, rfl⟩ := h
  exact rfl
theorem k82_openM {w : World} {base : Nat} {ok : Nat → Prop} {x : S82} {cs : List Value} (h : k82.M w base ok x cs) : cs = [.int .i64 x.f0, .int .i64 x.f1] := by
  obtain ⟨_, _, rfl, rfl, rfl⟩ := h
  exact rfl
theorem k82_mk (w : World) (x : S82)  : k82.K w x [.int .i64 x.f0, .int .i64 x.f1] := ⟨[.int .i64 x.f0], [.int .i64 x.f1], rfl, rfl, rfl⟩
theorem k82_mkM (w : World) (base : Nat) (ok : Nat → Prop) (x : S82)  : k82.M w base ok x [.int .i64 x.f0, .int .i64 x.f1] := ⟨[.int .i64 x.f0], [.int .i64 x.f1], rfl, rfl, rfl⟩
def rd_T82 (xs : List S82) (i : Int) : S82 := xs.getD i.toNat z82
theorem at_T82 {w : World} {A : Option Addr} {n : Nat} {xs : List S82} (h : Kd.C k82 w A n xs) (i : Int) (h0 : 0 ≤ i) (h1 : i < n) : ∃ ad , A = some ad ∧ w.cell? (ad.add (i.toNat * 2)) = some (.int .i64 (rd_T82 xs i).f0) ∧ w.cell? ⟨(ad.add (i.toNat * 2)).block, (ad.add (i.toNat * 2)).off + 1, none⟩ = some (.int .i64 (rd_T82 xs i).f1) := by
  obtain ⟨ad, c, e, _, hK, hc0⟩ := Kd.C_get h z82 i h0 h1
  have hc : ∀ j u, c[j]? = some u → w.cell? (ad.add (i.toNat * 2 + j)) = some u := hc0
  obtain rfl := k82_open hK
  exact ⟨ad, e, hc 0 _ rfl, by rw [← add_field _ _ 1 (by omega)]; exact hc 1 _ rfl⟩

/-! #### struct type 75 -/
structure S75 where
  f0 : ByteArray
  f1 : Int
  f2 : Bool
def z75 : S75 := ⟨(⟨#[]⟩ : ByteArray), (0 : Int), false⟩
def k75 : Kd S75 := Kd.iso (Kd.pair Kd.string (Kd.pair (Kd.int .i64) Kd.bool)) (fun x : S75 => (x.f0, x.f1, x.f2))
theorem k75_open {w : World} {x : S75} {cs : List Value} (h : k75.K w x cs) : cs = [.string x.f0, .int .i64 x.f1, .bool x.f2] := by
  obtain ⟨_, _, rfl, rfl, ⟨_, _, rfl, rfl, rfl⟩⟩ := h
  exact rfl
theorem k75_openM {w : World} {base : Nat} {ok : Nat → Prop} {x : S75} {cs : List Value} (h : k75.M w base ok x cs) : cs = [.string x.f0, .int .i64 x.f1, .bool x.f2] := by
  obtain ⟨_, _, rfl, rfl, ⟨_, _, rfl, rfl, rfl⟩⟩ := h
  exact rfl
theorem k75_mk (w : World) (x : S75)  : k75.K w x [.string x.f0, .int .i64 x.f1, .bool x.f2] := ⟨[.string x.f0], [.int .i64 x.f1, .bool x.f2], rfl, rfl, ⟨[.int .i64 x.f1], [.bool x.f2], rfl, rfl, rfl⟩⟩
theorem k75_mkM (w : World) (base : Nat) (ok : Nat → Prop) (x : S75)  : k75.M w base ok x [.string x.f0, .int .i64 x.f1, .bool x.f2] := ⟨[.string x.f0], [.int .i64 x.f1, .bool x.f2], rfl, rfl, ⟨[.int .i64 x.f1], [.bool x.f2], rfl, rfl, rfl⟩⟩
def rd_T75 (xs : List S75) (i : Int) : S75 := xs.getD i.toNat z75
theorem at_T75 {w : World} {A : Option Addr} {n : Nat} {xs : List S75} (h : Kd.C k75 w A n xs) (i : Int) (h0 : 0 ≤ i) (h1 : i < n) : ∃ ad , A = some ad ∧ w.cell? (ad.add (i.toNat * 3)) = some (.string (rd_T75 xs i).f0) ∧ w.cell? ⟨(ad.add (i.toNat * 3)).block, (ad.add (i.toNat * 3)).off + 1, none⟩ = some (.int .i64 (rd_T75 xs i).f1) ∧ w.cell? ⟨(ad.add (i.toNat * 3)).block, (ad.add (i.toNat * 3)).off + 2, none⟩ = some (.bool (rd_T75 xs i).f2) := by
  obtain ⟨ad, c, e, _, hK, hc0⟩ := Kd.C_get h z75 i h0 h1
  have hc : ∀ j u, c[j]? = some u → w.cell? (ad.add (i.toNat * 3 + j)) = some u := hc0
  obtain rfl := k75_open hK
  exact ⟨ad, e, hc 0 _ rfl, by rw [← add_field _ _ 1 (by omega)]; exact hc 1 _ rfl, by rw [← add_field _ _ 2 (by omega)]; exact hc 2 _ rfl⟩

/-- The table as a list of records. -/
def tab_0 : List S59 := uRows.map fun p => (⟨p.1, p.2⟩ : S59)
theorem tab_0_C {w : World} (h : Laid w) : Kd.C k59 w (some ⟨0, 0, none⟩) 5 tab_0 := tab_row k59 _ enc2 (fun _ => rfl) (fun w x => k59_mk w ⟨x.1, x.2⟩) (by decide) h.rows
/-- The table as a list of records. -/
def tab_1 : List S75 := rRefs.map fun p => (⟨⟨p.1.toArray⟩, p.2.1, p.2.2⟩ : S75)
theorem tab_1_C {w : World} (h : Laid w) : Kd.C k75 w (some ⟨1, 0, none⟩) 28 tab_1 := tab_row k75 _ enc3 (fun _ => rfl) (fun w x => k75_mk w ⟨⟨x.1.toArray⟩, x.2.1, x.2.2⟩) (by decide) h.refs
/-- All of it, as a value. -/
def tabv_1 : Array Value := (rRefs.flatMap enc3).toArray
theorem load_tab_1 {w : World} (h : Laid w) : (Instr.loadAt 76 (.pointer (some ⟨1, 0, none⟩))).run Tryd.prog w = .ok (.agg tabv_1) w := by
  unfold Instr.loadAt Instr.sureAddr
  simp only [Sem.run_bind, Sem.run_pure, Result.andThen_ok]
  exact load_cells w 1 76 _ _ (fun j v hv => flat_cells h.refs (fun _ => rfl) j v hv) Tryd.underlying76 rfl (by kernel_rfl)
theorem wpList_tab_1 {ops : Array Oper} {rest : List Oper} {o : Oper} {a : Act} {w : World} {Q : Exit → Act → World → Prop} (hgd : o.guard = none) (ho : o.op = .load 76 (.global 1)) (hL : Laid w) (h : wpList Tryd.prog ops Q rest (a.put o.dst (.agg tabv_1)) w) : wpList Tryd.prog ops Q (o :: rest) a w :=
  wpList_plain hgd fun _ hK => by
    unfold Oper.wp execOp
    simp only [ho, Act.eval, load_tab_1 hL, Sem.run_bind, Sem.run_pure, Result.andThen_ok]
    exact hK _ _ h
theorem index_tab_1_nat : ∀ n : Nat, n < 28 → ∀ W : World, (Instr.index 76 (.agg tabv_1) (.int .i64 (n : Int))).run Tryd.prog W = .ok (.agg #[.string (rd_T75 tab_1 (n : Int)).f0, .int .i64 (rd_T75 tab_1 (n : Int)).f1, .bool (rd_T75 tab_1 (n : Int)).f2]) W
  | 0, _ => fun _ => by kernel_rfl
  | 1, _ => fun _ => by kernel_rfl
  | 2, _ => fun _ => by kernel_rfl
  | 3, _ => fun _ => by kernel_rfl
  | 4, _ => fun _ => by kernel_rfl
  | 5, _ => fun _ => by kernel_rfl
  | 6, _ => fun _ => by kernel_rfl
  | 7, _ => fun _ => by kernel_rfl
  | 8, _ => fun _ => by kernel_rfl
  | 9, _ => fun _ => by kernel_rfl
  | 10, _ => fun _ => by kernel_rfl
  | 11, _ => fun _ => by kernel_rfl
  | 12, _ => fun _ => by kernel_rfl
  | 13, _ => fun _ => by kernel_rfl
  | 14, _ => fun _ => by kernel_rfl
  | 15, _ => fun _ => by kernel_rfl
  | 16, _ => fun _ => by kernel_rfl
  | 17, _ => fun _ => by kernel_rfl
  | 18, _ => fun _ => by kernel_rfl
  | 19, _ => fun _ => by kernel_rfl
  | 20, _ => fun _ => by kernel_rfl
  | 21, _ => fun _ => by kernel_rfl
  | 22, _ => fun _ => by kernel_rfl
  | 23, _ => fun _ => by kernel_rfl
  | 24, _ => fun _ => by kernel_rfl
  | 25, _ => fun _ => by kernel_rfl
  | 26, _ => fun _ => by kernel_rfl
  | 27, _ => fun _ => by kernel_rfl
  | n + 28, h => absurd h (by omega)
theorem index_tab_1 {i : Int} (h0 : 0 ≤ i) (h1 : i < 28) (W : World) : (Instr.index 76 (.agg tabv_1) (.int .i64 i)).run Tryd.prog W = .ok (.agg #[.string (rd_T75 tab_1 i).f0, .int .i64 (rd_T75 tab_1 i).f1, .bool (rd_T75 tab_1 i).f2]) W := by
  obtain ⟨n, rfl⟩ := Int.eq_ofNat_of_zero_le h0
  exact index_tab_1_nat n (by omega) W
/-- The table as a list of records. -/
def tab_2 : List S82 := rTurns.map fun p => (⟨p.1, p.2⟩ : S82)
theorem tab_2_C {w : World} (h : Laid w) : Kd.C k82 w (some ⟨2, 0, none⟩) 27 tab_2 := tab_row k82 _ enc2 (fun _ => rfl) (fun w x => k82_mk w ⟨x.1, x.2⟩) (by decide) h.turns
/-- All of it, as a value. -/
def tabv_2 : Array Value := (rTurns.flatMap enc2).toArray
theorem load_tab_2 {w : World} (h : Laid w) : (Instr.loadAt 83 (.pointer (some ⟨2, 0, none⟩))).run Tryd.prog w = .ok (.agg tabv_2) w := by
  unfold Instr.loadAt Instr.sureAddr
  simp only [Sem.run_bind, Sem.run_pure, Result.andThen_ok]
  exact load_cells w 2 83 _ _ (fun j v hv => flat_cells h.turns (fun _ => rfl) j v hv) Tryd.underlying83 rfl (by kernel_rfl)
theorem wpList_tab_2 {ops : Array Oper} {rest : List Oper} {o : Oper} {a : Act} {w : World} {Q : Exit → Act → World → Prop} (hgd : o.guard = none) (ho : o.op = .load 83 (.global 2)) (hL : Laid w) (h : wpList Tryd.prog ops Q rest (a.put o.dst (.agg tabv_2)) w) : wpList Tryd.prog ops Q (o :: rest) a w :=
  wpList_plain hgd fun _ hK => by
    unfold Oper.wp execOp
    simp only [ho, Act.eval, load_tab_2 hL, Sem.run_bind, Sem.run_pure, Result.andThen_ok]
    exact hK _ _ h
theorem index_tab_2_nat : ∀ n : Nat, n < 27 → ∀ W : World, (Instr.index 83 (.agg tabv_2) (.int .i64 (n : Int))).run Tryd.prog W = .ok (.agg #[.int .i64 (rd_T82 tab_2 (n : Int)).f0, .int .i64 (rd_T82 tab_2 (n : Int)).f1]) W
  | 0, _ => fun _ => by kernel_rfl
  | 1, _ => fun _ => by kernel_rfl
  | 2, _ => fun _ => by kernel_rfl
  | 3, _ => fun _ => by kernel_rfl
  | 4, _ => fun _ => by kernel_rfl
  | 5, _ => fun _ => by kernel_rfl
  | 6, _ => fun _ => by kernel_rfl
  | 7, _ => fun _ => by kernel_rfl
  | 8, _ => fun _ => by kernel_rfl
  | 9, _ => fun _ => by kernel_rfl
  | 10, _ => fun _ => by kernel_rfl
  | 11, _ => fun _ => by kernel_rfl
  | 12, _ => fun _ => by kernel_rfl
  | 13, _ => fun _ => by kernel_rfl
  | 14, _ => fun _ => by kernel_rfl
  | 15, _ => fun _ => by kernel_rfl
  | 16, _ => fun _ => by kernel_rfl
  | 17, _ => fun _ => by kernel_rfl
  | 18, _ => fun _ => by kernel_rfl
  | 19, _ => fun _ => by kernel_rfl
  | 20, _ => fun _ => by kernel_rfl
  | 21, _ => fun _ => by kernel_rfl
  | 22, _ => fun _ => by kernel_rfl
  | 23, _ => fun _ => by kernel_rfl
  | 24, _ => fun _ => by kernel_rfl
  | 25, _ => fun _ => by kernel_rfl
  | 26, _ => fun _ => by kernel_rfl
  | n + 27, h => absurd h (by omega)
theorem index_tab_2 {i : Int} (h0 : 0 ≤ i) (h1 : i < 27) (W : World) : (Instr.index 83 (.agg tabv_2) (.int .i64 i)).run Tryd.prog W = .ok (.agg #[.int .i64 (rd_T82 tab_2 i).f0, .int .i64 (rd_T82 tab_2 i).f1]) W := by
  obtain ⟨n, rfl⟩ := Int.eq_ofNat_of_zero_le h0
  exact index_tab_2_nat n (by omega) W
end Go.Proofs.YtenbdffgnbibeaaDoor.X
