/- A slice of attributes that came in, read as a list. -/
import Derived.Test.YtdoapeandigooaaDoorPMet
import Derived.Test.YtdoapeandigooaaDoorP0
import Derived.ChangeSame
import Derived.Carry
namespace Go.Proofs.YtdoapeandigooaaDoor.P
open Go.ChangeShapes Go.WideShapes Go.ChangeAt Go.RowKit Go.Proofs.YtdoapeandigooaaDoorW.PrintWords Go.Proofs.YtdoapeandigooaaDoorW.PrintLast

theorem list_of {α : Type} {Q : Nat → α → Prop} : ∀ n : Nat, (∀ i, i < n → ∃ x, Q i x) → ∃ l : List α, l.length = n ∧ ∀ i x, l[i]? = some x → Q i x
  | 0, _ => ⟨[], rfl, fun i x h => by simp at h⟩
  | n + 1, h => by
    obtain ⟨l, hl, hq⟩ := list_of n fun i hi => h i (by omega)
    obtain ⟨x, hx⟩ := h n (by omega)
    refine ⟨l ++ [x], by rw [List.length_append, hl]; rfl, fun i y hy => ?_⟩
    rcases Nat.lt_or_ge i n with z | z
    · rw [List.getElem?_append_left (by omega)] at hy; exact hq i y hy
    · rw [List.getElem?_append_right (by omega), hl] at hy
      have : i - n = 0 := by
        rcases Nat.eq_zero_or_pos (i - n) with w | w
        · exact w
        · rw [List.getElem?_eq_none (by simp only [List.length_cons, List.length_nil]; omega)] at hy; cases hy
      rw [this] at hy
      obtain rfl : x = y := by simpa using hy
      obtain rfl : i = n := by omega
      exact hx
theorem two_cells {w : World} {base : Nat} {a : Addr} {cs : List Value} (h : w.cells? base a 2 = some cs) : ∃ u v, cs = [u, v] ∧ w.cell? (a.add 0) = some u ∧ w.cell? (a.add 1) = some v := by
  unfold World.cells? at h
  split at h
  · simp only [List.range_succ, List.range_zero, List.nil_append, List.mapM_cons, List.mapM_nil, List.cons_append] at h
    cases h0 : w.cell? (a.add 0) with
    | none => simp [h0] at h
    | some u =>
      cases h1 : w.cell? (a.add 1) with
      | none => simp [h0, h1] at h
      | some v =>
        simp [h0, h1] at h
        exact ⟨u, v, h.symm, rfl, rfl⟩
  · cases h
theorem add_one (x : Addr) (a : Nat) : (x.add a).add 1 = x.add (a + 1) := by
  unfold Addr.add
  by_cases h : a = 0
  · subst h; simp
  · simp [h, Nat.add_assoc]
theorem attr_rec {H : Type} {enc0 : TypeId × Value → H} {w : World} {base : Nat} {spare : Nat → Bool} {held : Bool} (m : Nat) (c : List Value) (y : DataW H × List MemPlace) (h : DataW.trod enc0 Tryd.prog w base spare held m 48 c = some y) : ∃ x : S48, c = [.string x.f0, .string x.f1] := by
  have c9 : Tryd.prog.cellsOf 9 = 1 := by kernel_rfl
  have c48 : Tryd.prog.cellsOf 48 = 2 := by kernel_rfl
  obtain ⟨y0, y1, n, hx, hl, g0, g1⟩ := trod_struct2 Tryd.underlying48 h
  simp only [c9] at g0 g1
  rw [c48] at hl
  obtain ⟨x0, e0, _, _⟩ := DataW.trod_string Tryd.underlying9 g0
  obtain ⟨x1, e1, _, _⟩ := DataW.trod_string Tryd.underlying9 g1
  match c, hl with
  | [c0, c1], _ =>
    simp at e0 e1
    subst e0 e1
    exact ⟨⟨_, _⟩, rfl⟩
theorem open_attrs {H : Type} {enc0 : TypeId × Value → H} {W : World} {spare : Nat → Bool} {held : Bool} {A : Option Addr} {len cap : Nat} {d : DataW H} {p : List MemPlace} (h : DataW.Trod enc0 Tryd.prog W 0 spare held 35 (.slice A len cap) d p) :
    ∃ l : List S48, l.length = len ∧ Kd.C k48 W A l.length l ∧ l.length ≤ cap := by
  have c48 : Tryd.prog.cellsOf 48 = 2 := by kernel_rfl
  obtain ⟨fuel, hf⟩ := h
  rcases DataW.trod_slice Tryd.underlying35 hf with ⟨hcs, _⟩ | ⟨x, len', cap', elems, rest, n, _, hcs, _, _, hl, hm, hlen, hel, _⟩
  · simp [Value.cells] at hcs
    obtain ⟨rfl, rfl, rfl⟩ := hcs
    exact ⟨[], rfl, ⟨rfl, by decide, fun z => absurd z (by decide)⟩, Nat.le_refl _⟩
  · simp [Value.cells] at hcs
    obtain ⟨rfl, rfl, rfl⟩ := hcs
    rw [c48] at hel
    obtain ⟨l, hll, hq⟩ := list_of (Q := fun i (y : S48) => W.cell? (x.add (i * 2)) = some (.string y.f0) ∧ W.cell? (x.add (i * 2 + 1)) = some (.string y.f1)) len fun i hi => by
      have h1 := hel i hi
      have h2 : ∃ y, elems[i]? = some y := ⟨_, List.getElem?_eq_getElem (by omega)⟩
      obtain ⟨y, hy⟩ := h2
      rw [hy] at h1
      obtain ⟨cs, hc, ht⟩ := Option.bind_eq_some_iff.1 h1
      obtain ⟨u, v, rfl, hu, hv⟩ := two_cells hc
      obtain ⟨z, hz⟩ := attr_rec _ _ _ ht
      simp only [List.cons.injEq, and_true] at hz
      obtain ⟨rfl, rfl⟩ := hz
      exact ⟨z, by simpa [Addr.add] using hu, (add_one _ _) ▸ hv⟩
    refine ⟨l, hll, ⟨by simp, by unfold maxLen at hm; omega, fun _ => ⟨x, rfl, fun j y hy => ⟨[.string y.f0, .string y.f1], rfl, k48_mk W y, fun i u hu => ?_⟩⟩⟩, by omega⟩
    obtain ⟨h0, h1⟩ := hq j y hy
    match i with
    | 0 => simp only [List.getElem?_cons_zero, Option.some.injEq] at hu; subst hu; exact h0
    | 1 => simp only [List.getElem?_cons_succ, List.getElem?_cons_zero, Option.some.injEq] at hu; subst hu; exact h1
    | i + 2 => simp at hu
end Go.Proofs.YtdoapeandigooaaDoor.P
