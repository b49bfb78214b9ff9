/- What the package-level tables hold, as a condition on memory, and how it is kept: the condition that the contracts bear. -/
import Derived.Test.YtgopimjfoppkmaaDoorProg
import Derived.Test.YtgopimjfoppkmaaDoorWWords
import Derived.Test.YtgopimjfoppkmaaDoorWLast
import Derived.Test.YtgopimjfoppkmaaDoorWMore
namespace Go.Proofs.YtgopimjfoppkmaaDoor.D
open Go.RowKit Go.Proofs.YtgopimjfoppkmaaDoorW.PrintWords Go.Proofs.YtgopimjfoppkmaaDoorW.PrintLast

/-- A variable's cells, record by record. -/
def TabAt {α : Type} (w : World) (g sz : Nat) (enc : α → List Value) (l : List α) : Prop := ∀ j a, l[j]? = some a → ∀ i u, (enc a)[i]? = some u → w.cell? ⟨g, j * sz + i, none⟩ = some u
theorem TabAt.below {α : Type} {w w' : World} {g sz : Nat} {enc : α → List Value} {l : List α} (h : TabAt w g sz enc l) (hb : Below w.heap.size w w') : TabAt w' g sz enc l := fun j a ha i u hu => pw_cell_below hb (h j a ha i u hu)
/-- A table of records, read as a row. -/
theorem tab_row {α β : Type} (d : Kd β) (f : α → β) (enc : α → List Value) (hsz : ∀ x, (enc x).length = d.sz) (hK : ∀ w x, d.K w (f x) (enc x)) {w : World} {g : Nat} {l : List α} (hl : l.length ≤ 9223372036854775807) (h : TabAt w g d.sz enc l) :
    Kd.C d w (some ⟨g, 0, none⟩) l.length (l.map f) := by
  refine ⟨by simp, hl, fun _ => ⟨_, rfl, fun j p hp => ?_⟩⟩
  rw [List.getElem?_map] at hp
  obtain ⟨x, hx, rfl⟩ := Option.map_eq_some_iff.1 hp
  refine ⟨enc x, hsz x, hK w x, fun i u hu => ?_⟩
  rw [add_plain]
  exact h _ _ hx _ _ hu
/-- The cells one behind the other. -/
theorem flat_off {α : Type} {w : World} {g sz : Nat} {enc : α → List Value} (hsz : ∀ x, (enc x).length = sz) : ∀ (l : List α) (off : Nat), (∀ j a, l[j]? = some a → ∀ i u, (enc a)[i]? = some u → w.cell? ⟨g, off + (j * sz + i), none⟩ = some u) → ∀ n v, (l.flatMap enc)[n]? = some v → w.cell? ⟨g, off + n, none⟩ = some v
  | [], _, _, n, v, h => by simp at h
  | x :: l, off, hc, n, v, h => by
    rw [List.flatMap_cons] at h
    rcases Nat.lt_or_ge n (enc x).length with q | q
    · rw [List.getElem?_append_left q] at h
      have := hc 0 x rfl n v h
      rwa [Nat.zero_mul, Nat.zero_add] at this
    · rw [List.getElem?_append_right q] at h
      have := flat_off hsz l (off + sz) (fun j a ha i u hu => by
        have := hc (j + 1) a (by simpa using ha) i u hu
        rw [Nat.succ_mul] at this
        rw [show off + sz + (j * sz + i) = off + (j * sz + sz + i) by omega]
        exact this) (n - (enc x).length) v h
      rw [hsz] at this q
      rw [show off + sz + (n - sz) = off + n by omega] at this
      exact this
theorem flat_cells {α : Type} {w : World} {g sz : Nat} {enc : α → List Value} {l : List α} (h : TabAt w g sz enc l) (hsz : ∀ x, (enc x).length = sz := by exact fun _ => rfl) (n : Nat) (v : Value) (hv : (l.flatMap enc)[n]? = some v) : w.cell? ⟨g, n, none⟩ = some v := by
  have := flat_off hsz l 0 (fun j a ha i u hu => by rw [Nat.zero_add]; exact h j a ha i u hu) n v hv
  rwa [Nat.zero_add] at this
theorem load_cells {P : Program} (w : World) (g : Nat) (ty : TypeId) (l : List Value) (d : TypeDesc) (hc : ∀ j v, l[j]? = some v → w.cell? ⟨g, j, none⟩ = some v)
    (hu : P.underlying ty = some d) (hd : (match d with | .struct _ | .array _ _ => true | _ => false) = true) (hi : (P.info? ty).map (·.size) = some l.length) :
    (loadVar ty ⟨g, 0, none⟩).run P w = .ok (.agg l.toArray) w := by
  have hl : (loadCells ⟨g, 0, none⟩ l.length).run P w = .ok l.toArray w :=
    run_loadCells_list (P := P) w ⟨g, 0, none⟩ l (fun j v hv => by rw [add_plain]; exact hc j v hv)
  cases hq : P.info? ty with
  | none => simp [hq] at hi
  | some i =>
    have hs : i.size = l.length := by simpa [hq] using hi
    have hagg : (isAgg ty).run P w = .ok true w := by
      unfold isAgg
      rw [Sem.run_bind, run_underlying hu w]
      cases d <;> simp_all
    simp [loadVar, Sem.run_bind, hagg, sizeOf, typeInfo, hq, hs, hl]
def enc2 (p : Int × Int) : List Value := [.int .i64 p.1, .int .i64 p.2]

/-- utf.rows: the heads and least characters. -/
def uRows : List (Int × Int) := [(0, 0), (0, 0), (192, 128), (224, 2048), (240, 65536)]

/-- All tables of the program lie as their initialisers lay them. -/
structure Laid (w : World) : Prop where
  rows : TabAt w 0 2 enc2 uRows
theorem Laid.below {w w' : World} (h : Laid w) (hb : Below w.heap.size w w') : Laid w' where
  rows := h.rows.below hb
theorem Laid.drewN {w : World} (h : Laid w) (n : Nat) : Laid (w.drewN n) := h.below (pw_below_drewN (Below.refl _ _) n)
theorem Laid.drew {w : World} (h : Laid w) : Laid w.drew := h.below (below_drew (Below.refl _ _))
end Go.Proofs.YtgopimjfoppkmaaDoor.D
