/- A slice of revisions that came in, read as a list. -/
import Derived.Test.YtgopimjfoppkmaaDoorDMet
import Derived.Test.YtgopimjfoppkmaaDoorD0
import Derived.ChangeSame
import Derived.ChangeSlices
import Derived.Lib.SmallJoins
import Derived.Carry
namespace Go.Proofs.YtgopimjfoppkmaaDoor.D
open Go.ChangeShapes Go.WideShapes Go.ChangeAt Go.RowKit Go.Proofs.YtgopimjfoppkmaaDoorW.PrintWords Go.Proofs.YtgopimjfoppkmaaDoorW.PrintLast

theorem list_of {α : Type} {Q : Nat → α → Prop} : ∀ n : Nat, (∀ i, i < n → ∃ x, Q i x) → ∃ l : List α, l.length = n ∧ ∀ i x, l[i]? = some x → Q i x
  | 0, _ => ⟨[], rfl, fun i x h => by simp at h⟩
  | n + 1, h => by
    obtain ⟨l, hl, hq⟩ := list_of n fun i hi => h i (by omega)
    obtain ⟨x, hx⟩ := h n (by omega)
    refine ⟨l ++ [x], by rw [List.length_append, hl]; rfl, fun i y hy => ?_⟩
    rcases Nat.lt_or_ge i n with z | z
    · rw [List.getElem?_append_left (by omega)] at hy; exact hq i y hy
    · rw [List.getElem?_append_right (by omega), hl] at hy
      have : i - n = 0 := by
        rcases Nat.eq_zero_or_pos (i - n) with w | w
        · exact w
        · rw [List.getElem?_eq_none (by simp only [List.length_cons, List.length_nil]; omega)] at hy; cases hy
      rw [this] at hy
      obtain rfl : x = y := by simpa using hy
      obtain rfl : i = n := by omega
      exact hx
theorem four_cells {w : World} {base : Nat} {a : Addr} {cs : List Value} (h : w.cells? base a 4 = some cs) : ∃ c0 c1 c2 c3, cs = [c0, c1, c2, c3] ∧ w.cell? (a.add 0) = some c0 ∧ w.cell? (a.add 1) = some c1 ∧ w.cell? (a.add 2) = some c2 ∧ w.cell? (a.add 3) = some c3 := by
  unfold World.cells? at h
  split at h
  · simp only [List.range_succ, List.range_zero, List.nil_append, List.mapM_cons, List.mapM_nil, List.cons_append] at h
    cases h0 : w.cell? (a.add 0) with
    | none => simp [h0] at h
    | some u0 =>
      cases h1 : w.cell? (a.add 1) with
      | none => simp [h0, h1] at h
      | some u1 =>
        cases h2 : w.cell? (a.add 2) with
        | none => simp [h0, h1, h2] at h
        | some u2 =>
          cases h3 : w.cell? (a.add 3) with
          | none => simp [h0, h1, h2, h3] at h
          | some u3 =>
            simp [h0, h1, h2, h3] at h
            exact ⟨u0, u1, u2, u3, h.symm, rfl, rfl, rfl, rfl⟩
  · cases h
theorem add_more (x : Addr) (a b : Nat) : (x.add a).add b = x.add (a + b) := by
  unfold Addr.add
  by_cases h : a = 0
  · subst h; simp
  · by_cases g : b = 0
    · subst g; simp
    · simp [h, g, Nat.add_assoc]
theorem ints_row {H : Type} {enc0 : TypeId × Value → H} {w : World} {base : Nat} {spare : Nat → Bool} {held : Bool} (m : Nat) (c : List Value) (y : DataW H × List MemPlace) (h : DataW.trod enc0 Tryd.prog w base spare held m 29 c = some y) :
    ∃ (A : Option Addr) (l : List Int) (cp : Nat), c = [.slice A l.length cp] ∧ l.length ≤ cp ∧ Kd.C (Kd.int .i64) w A l.length l := by
  rcases open_ints Tryd.underlying29 Tryd.underlying3 (by kernel_rfl) h with ⟨rfl, _⟩ | ⟨a, len, cap, zs, rfl, _, hl, hm, hz, _, hc, _⟩
  · exact ⟨none, [], 0, rfl, Nat.le_refl _, ⟨rfl, by decide, fun z => absurd z (by decide)⟩⟩
  · have hzl : len ≤ zs.length := by rw [hz]; split <;> omega
    have e : (zs.take len).length = len := by rw [List.length_take]; omega
    refine ⟨some a, zs.take len, cap, by rw [e], by omega, ⟨rfl, by unfold maxLen at hm; omega, fun _ => ⟨a, rfl, fun j p hp => ⟨[.int .i64 p], rfl, rfl, fun i u hu => ?_⟩⟩⟩⟩
    match i with
    | 0 =>
      simp only [List.getElem?_cons_zero, Option.some.injEq] at hu
      subst hu
      have hj : j < (zs.take len).length := by
        rcases Nat.lt_or_ge j (zs.take len).length with z | z
        · exact z
        · rw [List.getElem?_eq_none z] at hp; cases hp
      rw [e] at hj
      have h1 := hc j (by omega)
      rw [List.getElem?_take, if_pos hj] at hp
      rw [List.getD_eq_getElem?_getD, hp] at h1
      rw [show (Kd.int .i64).sz = 1 from rfl, Nat.mul_one, Nat.add_zero]
      exact h1
    | i + 1 => simp at hu
theorem rev_rec {H : Type} {enc0 : TypeId × Value → H} {w : World} {base : Nat} {spare : Nat → Bool} {held : Bool} (m : Nat) (c : List Value) (y : DataW H × List MemPlace) (h : DataW.trod enc0 Tryd.prog w base spare held m 43 c = some y) : ∃ x : S43, k43.K w x c := by
  have c1 : Tryd.prog.cellsOf 3 = 1 := by kernel_rfl
  have c9 : Tryd.prog.cellsOf 9 = 1 := by kernel_rfl
  have cs : Tryd.prog.cellsOf 29 = 1 := by kernel_rfl
  have cr : Tryd.prog.cellsOf 43 = 4 := by kernel_rfl
  obtain ⟨y0, y1, y2, y3, n, hx, hl, g0, g1, g2, g3⟩ := Go.Joins.trod_struct4 Tryd.underlying43 h
  simp only [c1, c9, cs] at g0 g1 g2 g3
  rw [cr] at hl
  obtain ⟨x0, e0, _, _⟩ := DataW.trod_int Tryd.underlying3 g0
  obtain ⟨x1, e1, _, _⟩ := DataW.trod_string Tryd.underlying9 g1
  obtain ⟨x2, e2, _, _⟩ := DataW.trod_int Tryd.underlying3 g2
  obtain ⟨A3, x3, cp, e3, hcp, hC⟩ := ints_row _ _ _ g3
  match c, hl with
  | [c0, c1', c2, c3], _ =>
    simp at e0 e1 e2 e3
    subst e0 e1 e2 e3
    exact ⟨⟨x0, x1, x2, x3⟩, k43_mk w ⟨x0, x1, x2, x3⟩ hcp hC⟩
theorem open_revs {H : Type} {enc0 : TypeId × Value → H} {W : World} {spare : Nat → Bool} {held : Bool} {A : Option Addr} {len cap : Nat} {d : DataW H} {p : List MemPlace} (h : DataW.Trod enc0 Tryd.prog W 0 spare held 22 (.slice A len cap) d p) :
    ∃ l : List S43, l.length = len ∧ Kd.C k43 W A l.length l ∧ l.length ≤ cap := by
  have cr : Tryd.prog.cellsOf 43 = 4 := by kernel_rfl
  obtain ⟨fuel, hf⟩ := h
  rcases DataW.trod_slice Tryd.underlying22 hf with ⟨hcs, _⟩ | ⟨x, len', cap', elems, rest, n, _, hcs, _, _, hl, hm, hlen, hel, _⟩
  · simp [Value.cells] at hcs
    obtain ⟨rfl, rfl, rfl⟩ := hcs
    exact ⟨[], rfl, ⟨rfl, by decide, fun z => absurd z (by decide)⟩, Nat.le_refl _⟩
  · simp [Value.cells] at hcs
    obtain ⟨rfl, rfl, rfl⟩ := hcs
    rw [cr] at hel
    obtain ⟨l, hll, hq⟩ := list_of (Q := fun i (y : S43) => ∃ c : List Value, c.length = 4 ∧ k43.K W y c ∧ ∀ j u, c[j]? = some u → W.cell? (x.add (i * 4 + j)) = some u) len fun i hi => by
      have h1 := hel i hi
      have h2 : ∃ y, elems[i]? = some y := ⟨_, List.getElem?_eq_getElem (by omega)⟩
      obtain ⟨y, hy⟩ := h2
      rw [hy] at h1
      obtain ⟨cs, hc, ht⟩ := Option.bind_eq_some_iff.1 h1
      obtain ⟨c0, c1, c2, c3, rfl, q0, q1, q2, q3⟩ := four_cells hc
      obtain ⟨z, hz⟩ := rev_rec _ _ _ ht
      rw [add_more] at q0 q1 q2 q3
      refine ⟨z, _, rfl, hz, fun j u hu => ?_⟩
      match j with
      | 0 => simp only [List.getElem?_cons_zero, Option.some.injEq] at hu; subst hu; exact q0
      | 1 => simp only [List.getElem?_cons_succ, List.getElem?_cons_zero, Option.some.injEq] at hu; subst hu; exact q1
      | 2 => simp only [List.getElem?_cons_succ, List.getElem?_cons_zero, Option.some.injEq] at hu; subst hu; exact q2
      | 3 => simp only [List.getElem?_cons_succ, List.getElem?_cons_zero, Option.some.injEq] at hu; subst hu; exact q3
      | j + 4 => simp at hu
    exact ⟨l, hll, ⟨by simp, by unfold maxLen at hm; omega, fun _ => ⟨x, rfl, fun j y hy => by
      obtain ⟨c, hc4, hK, hcell⟩ := hq j y hy
      exact ⟨c, hc4, hK, hcell⟩⟩⟩, by omega⟩
theorem open_rev {H : Type} {enc0 : TypeId × Value → H} {W : World} {spare : Nat → Bool} {held : Bool} {cs : Array Value} {d : DataW H} {p : List MemPlace} (h : DataW.Trod enc0 Tryd.prog W 0 spare held 43 (.agg cs) d p) :
    ∃ (x : S43) (A : Option Addr) (c : Nat), cs = #[.int .i64 x.f0, .string x.f1, .int .i64 x.f2, .slice A x.f3.length c] ∧ x.f3.length ≤ c ∧ Kd.C (Kd.int .i64) W A x.f3.length x.f3 := by
  obtain ⟨fuel, hf⟩ := h
  obtain ⟨x, hx⟩ := rev_rec _ _ _ hf
  obtain ⟨A, c, e, hl, hc⟩ := k43_open hx
  exact ⟨x, A, c, Array.toList_inj.1 (by simpa [Value.cells] using e), hl, hc⟩
end Go.Proofs.YtgopimjfoppkmaaDoor.D
