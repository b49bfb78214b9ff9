/- What the package-level tables hold, as a condition on memory, and how it is kept: the condition that the contracts bear. -/
import Derived.Test.YtenbdffgnbibeaaDoorProg
import Derived.Test.YtenbdffgnbibeaaDoorWWords
import Derived.Test.YtenbdffgnbibeaaDoorWLast
import Derived.Test.YtenbdffgnbibeaaDoorWMore
namespace Go.Proofs.YtenbdffgnbibeaaDoor.U
open Go.RowKit Go.Proofs.YtenbdffgnbibeaaDoorW.PrintWords Go.Proofs.YtenbdffgnbibeaaDoorW.PrintLast

/-- A variable's cells, record by record. -/
def TabAt {α : Type} (w : World) (g sz : Nat) (enc : α → List Value) (l : List α) : Prop := ∀ j a, l[j]? = some a → ∀ i u, (enc a)[i]? = some u → w.cell? ⟨g, j * sz + i, none⟩ = some u
theorem TabAt.below {α : Type} {w w' : World} {g sz : Nat} {enc : α → List Value} {l : List α} (h : TabAt w g sz enc l) (hb : Below w.heap.size w w') : TabAt w' g sz enc l := fun j a ha i u hu => pw_cell_below hb (h j a ha i u hu)
/-- A table of records, read as a row. -/
theorem tab_row {α β : Type} (d : Kd β) (f : α → β) (enc : α → List Value) (hsz : ∀ x, (enc x).length = d.sz) (hK : ∀ w x, d.K w (f x) (enc x)) {w : World} {g : Nat} {l : List α} (hl : l.length ≤ 9223372036854775807) (h : TabAt w g d.sz enc l) :
    Kd.C d w (some ⟨g, 0, none⟩) l.length (l.map f) := by
  refine ⟨by simp, hl, fun _ => ⟨_, rfl, fun j p hp => ?_⟩⟩
  rw [List.getElem?_map] at hp
  obtain ⟨x, hx, rfl⟩ := Option.map_eq_some_iff.1 hp
  refine ⟨enc x, hsz x, hK w x, fun i u hu => ?_⟩
  rw [add_plain]
  exact h _ _ hx _ _ hu
def enc2 (p : Int × Int) : List Value := [.int .i64 p.1, .int .i64 p.2]

/-- utf.rows: the heads and least characters. -/
def uRows : List (Int × Int) := [(0, 0), (0, 0), (192, 128), (224, 2048), (240, 65536)]

/-- All tables of the program lie as their initialisers lay them. -/
structure Laid (w : World) : Prop where
  rows : TabAt w 0 2 enc2 uRows
theorem Laid.below {w w' : World} (h : Laid w) (hb : Below w.heap.size w w') : Laid w' where
  rows := h.rows.below hb
theorem Laid.drewN {w : World} (h : Laid w) (n : Nat) : Laid (w.drewN n) := h.below (pw_below_drewN (Below.refl _ _) n)
theorem Laid.drew {w : World} (h : Laid w) : Laid w.drew := h.below (below_drew (Below.refl _ _))
end Go.Proofs.YtenbdffgnbibeaaDoor.U
