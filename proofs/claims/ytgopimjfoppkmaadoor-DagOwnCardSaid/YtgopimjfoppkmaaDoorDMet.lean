/- What the rows list of the package-level tables gives the condition that the contracts bear. -/
import Derived.Test.YtgopimjfoppkmaaDoorDBase
import Derived.Test.YtgopimjfoppkmaaDoorRows
import Derived.ProofKit
import Derived.LaidMore
import Derived.OpenShut
import Derived.Stop.Joined
import Derived.Deep.Strs
namespace Go.Proofs.YtgopimjfoppkmaaDoor.D
open Go.ChangeShapes Go.WideShapes Go.ChangeAt Go.RowKit

theorem take_at {α : Type} {cs e : List α} {a n i : Nat} {u : α} (h : (cs.drop a).take n = e) (hu : e[i]? = some u) : cs[a + i]? = some u := by
  subst h
  rw [List.getElem?_take] at hu
  split at hu
  · rwa [List.getElem?_drop] at hu
  · cases hu
/-- The cells of an array that reads as a list of records. -/
theorem cells_of_array {α H : Type} {enc0 : TypeId × Value → H} {P : Program} {w : World} {base : Nat} {spare : Nat → Bool} {held : Bool} {fuel : Nat} {t e : TypeId} {n sz : Nat} {cs : List Value} {p : List MemPlace} (ht : P.underlying t = some (.array n e)) (hsz : P.cellsOf e = sz)
    (encd : α → DataW H) (enc : α → List Value) (l : List α) (hl : l.length = n)
    (hone : ∀ m a c q, DataW.trod enc0 P w base spare held m e c = some (encd a, q) → c = enc a)
    (h : DataW.trod enc0 P w base spare held fuel t cs = some (.agg (l.map encd), p)) : ∀ j a, l[j]? = some a → ∀ i u, (enc a)[i]? = some u → cs[j * sz + i]? = some u := by
  obtain ⟨xs, m, _, hx, _, hxl, hel⟩ := DataW.trod_array ht h
  simp only [Prod.mk.injEq, DataW.agg.injEq] at hx
  intro j a ha i u hu
  have hj : j < n := by rw [← hl]; exact (List.getElem?_eq_some_iff.1 ha).1
  have h1 := hel j hj
  rw [hsz] at h1
  have h2 : (xs.map (·.1))[j]? = (l.map encd)[j]? := by rw [hx.1]
  rw [List.getElem?_map, List.getElem?_map, ha] at h2
  obtain ⟨⟨d, q⟩, hq, hd⟩ := Option.map_eq_some_iff.1 h2
  simp only at hd
  subst hd
  rw [hq] at h1
  exact take_at (hone _ _ _ _ h1) hu
theorem rec2 {H : Type} {enc0 : TypeId × Value → H} {w : World} {base : Nat} {spare : Nat → Bool} {held : Bool} {T : TypeId} {f0 f1 : Field} (hT : Tryd.prog.underlying T = some (.struct #[f0, f1])) (h0 : f0.type = 3 ∧ f0.offset = 0) (h1 : f1.type = 3 ∧ f1.offset = 1) (hc : Tryd.prog.cellsOf T = 2)
    (m : Nat) (a : Int × Int) (c : List Value) (q : List MemPlace) (h : DataW.trod enc0 Tryd.prog w base spare held m T c = some (.agg [.lit (.int .i64 a.1), .lit (.int .i64 a.2)], q)) : c = enc2 a := by
  obtain ⟨y0, y1, n, hx, hl, g0, g1⟩ := trod_struct2 hT h
  have c3 : Tryd.prog.cellsOf 3 = 1 := by kernel_rfl
  rw [h0.1, h0.2, c3] at g0
  rw [h1.1, h1.2, c3] at g1
  rw [hc] at hl
  obtain ⟨x0, e0, rfl, _⟩ := DataW.trod_int Tryd.underlying3 g0
  obtain ⟨x1, e1, rfl, _⟩ := DataW.trod_int Tryd.underlying3 g1
  simp only [Prod.mk.injEq, DataW.agg.injEq, List.cons.injEq, DataW.lit.injEq, Lit.int.injEq, true_and, and_true] at hx
  match c, hl with
  | [c0, c1], _ =>
    simp at e0 e1
    subst e0 e1
    obtain ⟨⟨r0, r1⟩, _⟩ := hx
    simp [enc2, r0, r1]
/-- One variable out of the list. -/
theorem laid_mem {P : Program} {w : World} : ∀ {l : List (String × DataW Unit)} {ps : List MemPlace}, DataW.LaidVars P w l ps → ∀ n d, (n, d) ∈ l →
    ∃ g t cs fuel p, P.globalNamed n = some g ∧ (P.globals[g]?).map (·.type) = some t ∧ w.var? P n = some cs ∧ DataW.trod (fun _ => ()) P w 0 (fun _ => true) false fuel t cs.toList = some (d, p)
  | [], _, _, _, _, h => by simp at h
  | (n0, d0) :: r, ps, ⟨g, t, cs, fuel, p, q, h1, h2, h3, h4, hr, _⟩, n, d, h => by
    rcases List.mem_cons.1 h with h | h
    · obtain ⟨rfl, rfl⟩ := Prod.mk.inj h
      exact ⟨g, t, cs, fuel, p, h1, h2, h3, h4⟩
    · exact laid_mem hr n d h
theorem var_cells {W : World} {n : String} {g : Nat} {t : TypeId} {d : DataW Unit} {l : List (String × DataW Unit)} (hl : laidMet Tryd.prog l W) (hm : (n, d) ∈ l) (hg : Tryd.prog.globalNamed n = some g) (ht : (Tryd.prog.globals[g]?).map (·.type) = some t) :
    ∃ (cs : Array Value) (fuel : Nat) (p : List MemPlace), DataW.trod (fun _ => ()) Tryd.prog W 0 (fun _ => true) false fuel t cs.toList = some (d, p) ∧ ∀ i : Nat, W.cell? ⟨g, i, none⟩ = cs.toList[i]? := by
  obtain ⟨ps, hv, _, _⟩ := hl
  obtain ⟨g', t', cs, fuel, p, h1, h2, h3, h4⟩ := laid_mem hv n d hm
  obtain rfl := Option.some.inj (hg.symm.trans h1)
  obtain rfl := Option.some.inj (ht.symm.trans h2)
  exact ⟨cs, fuel, p, h4, fun i => by rw [World.var?_cell hg h3 i]; simp⟩
theorem laid_of {W : World} {l : List (String × DataW Unit)} (hl : laidMet Tryd.prog l W) (m0 : ("recto/utf.rows", Rows.laid_recto_utf_rows) ∈ l)
    : Laid W := by
  have c58 : Tryd.prog.cellsOf 83 = 2 := by kernel_rfl
  obtain ⟨cs, fuel, p, h, hc⟩ := var_cells hl m0 (show Tryd.prog.globalNamed "recto/utf.rows" = some 0 by kernel_rfl) (show (Tryd.prog.globals[0]?).map (·.type) = some 84 by kernel_rfl)
  have r0 : TabAt W 0 2 enc2 uRows := fun j a ha i u hu => (hc _).trans (cells_of_array Tryd.underlying84 c58 (fun a : Int × Int => .agg [.lit (.int .i64 a.1), .lit (.int .i64 a.2)]) enc2 uRows rfl (fun m a c q => rec2 Tryd.underlying83 ⟨rfl, rfl⟩ ⟨rfl, rfl⟩ c58 m a c q) h j a ha i u hu)
  exact ⟨r0⟩
end Go.Proofs.YtgopimjfoppkmaaDoor.D
