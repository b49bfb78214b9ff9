/- The graph that dag.Add handed back, written: what stays so (for DagOwn). -/
import Derived.Test.YtgopimjfoppkmaaDoorDHist
import Derived.Test.YtgopimjfoppkmaaDoorD10
namespace Go.Proofs.YtgopimjfoppkmaaDoor.D
open Go.RowKit Go.Shelf Go.Proofs.YtgopimjfoppkmaaDoorW.PrintWords Go.Proofs.YtgopimjfoppkmaaDoorW.PrintLast

/-- Each element's page can be written, and its parents' row is an own one, apart from the graph's row and from block gb. -/
def Mut (W : World) (base gb : Nat) (A : Option Addr) (n : Nat) : Prop := ∀ i, i < n → ∃ go, A = some ⟨go, 0, none⟩ ∧ base ≤ go ∧ go ≠ gb ∧ (∃ u, W.cell? ⟨go, i * 4 + 1, none⟩ = some u) ∧ W.frozen? ⟨go, i * 4 + 1, none⟩ = false ∧ ∃ A' m c xs, W.cell? ⟨go, i * 4 + 3, none⟩ = some (.slice A' m c) ∧ (Kd.int .i64).R 3 W base (fun k => k ≠ go ∧ k ≠ gb) (.slice A' m c) xs
theorem mut_of {W : World} {base gb : Nat} {ok : Nat → Prop} {A : Option Addr} {c : Nat} {xs : List S43} {cells : Array Value} (hN : Kd.N k43 43 W base ok (.slice A xs.length c) xs) (hok : ∀ k, ok k → k ≠ gb) (hO : OwnTo W base (.slice A xs.length c) xs.length xs) (hb : W.heap[gb]? = some (.cells cells 43 (0, 0))) : Mut W base gb A xs.length := by
  intro i hi
  obtain ⟨go, co, eo, gb', gl, cl, hG⟩ := Kd.N_form hN (by omega)
  cases eo
  obtain ⟨ce, hcl, hM, hcc, hfr⟩ := Kd.N_elem hN z43 (i : Int) (by omega) (by omega)
  obtain ⟨ua, uc, rfl, ul, ge⟩ := k43_openF hM
  have h1 := hcc 1 _ rfl
  have f1 := hfr 1
  obtain ⟨A', c', h3, hR⟩ := hO go _ _ rfl i hi hi
  refine ⟨go, rfl, gb', hok _ (hN.1 go rfl), ⟨_, h1⟩, f1, A', _, c', (rd_T43 xs (i : Int)).f3, h3, ?_⟩
  exact Kd.R_types hR hb (fun q hq => by rcases List.mem_cons.1 hq with rfl | hq
                                         · decide
                                         · cases hq)
theorem intR_set {W : World} {base : Nat} {ok : Nat → Prop} {v : Value} {xs : List Int} (h : (Kd.int .i64).R 3 W base ok v xs) (b j : Nat) (x : Int) : ∃ ys, ys.length = xs.length ∧ (Kd.int .i64).R 3 (W.setCell ⟨b, j, none⟩ (.int .i64 x)) base ok v ys := by
  by_cases e : v.ownBlock = some b
  · obtain ⟨A, c, rfl⟩ := Kd.R_slice h
    cases A with
    | none => cases e
    | some a =>
      have hx : a = ⟨b, 0, none⟩ := by
        rcases Nat.eq_zero_or_pos xs.length with z | z
        · rcases (Kd.own_of_R h).2 with ⟨h1, _⟩ | ⟨g, cap, cur, h1, _⟩
          · cases h1
          · injection h1 with h1
            injection h1 with h1
            subst h1
            cases e; rfl
        · obtain ⟨g, cap, h1, _⟩ := Kd.R_form h z
          injection h1 with h1
          injection h1 with h1
          subst h1
          cases e; rfl
      subst hx
      have := Kd.R_putn h (j : Int) x
      rw [Int.toNat_natCast] at this
      exact ⟨_, List.length_set .., this⟩
  · refine ⟨xs, rfl, Kd.R_mono (ok := fun k => ok k ∧ k ≠ b) (Kd.R_far (p := ⟨b, j, none⟩) ?_ (fun k hk => hk.2) _) (fun k hk => hk.1)⟩
    obtain ⟨h0, h1⟩ := h
    exact ⟨fun k hk => ⟨h0 k hk, fun z => e (by rw [hk, z])⟩, h1⟩
theorem far_cell {W : World} {p q : Addr} {u v : Value} (h : W.cell? q = some u) (hne : p ≠ q) : (W.setCell p v).cell? q = some u := (World.cell?_setCell_other _ _ _ _ hne).trans h
theorem Mut.page {W : World} {base gb go n i : Nat} (h : Mut W base gb (some ⟨go, 0, none⟩) n) (s : ByteArray) : Mut (W.setCell ⟨go, i * 4 + 1, none⟩ (.string s)) base gb (some ⟨go, 0, none⟩) n := by
  intro j hj
  obtain ⟨go', e, hb, hg, ⟨u, hu⟩, hf, A', m, c, xs, h3, hR⟩ := h j hj
  cases e
  refine ⟨go, rfl, hb, hg, ?_, by rw [World.frozen?_setCell]; exact hf, A', m, c, xs, far_cell h3 (fun z => by injection z with _ z _; omega), Kd.R_far hR (p := ⟨go, i * 4 + 1, none⟩) (fun k hk => hk.1) _⟩
  by_cases q : j = i
  · subst q
    exact ⟨_, World.cell?_setCell_same' _ _ _ (by rw [hu]; rfl)⟩
  · exact ⟨u, far_cell hu (fun z => by injection z with _ z _; omega)⟩
theorem Mut.par {W : World} {base gb go n b k : Nat} (h : Mut W base gb (some ⟨go, 0, none⟩) n) (hne : b ≠ go) (x : Int) : Mut (W.setCell ⟨b, k, none⟩ (.int .i64 x)) base gb (some ⟨go, 0, none⟩) n := by
  intro j hj
  obtain ⟨go', e, hb, hg, ⟨u, hu⟩, hf, A', m, c, xs, h3, hR⟩ := h j hj
  cases e
  obtain ⟨ys, _, hR'⟩ := intR_set hR b k x
  exact ⟨go, rfl, hb, hg, ⟨u, far_cell hu (fun z => by injection z with z _ _; exact hne z)⟩, by rw [World.frozen?_setCell]; exact hf, A', m, c, ys, far_cell h3 (fun z => by injection z with z _ _; exact hne z), hR'⟩
end Go.Proofs.YtgopimjfoppkmaaDoor.D
