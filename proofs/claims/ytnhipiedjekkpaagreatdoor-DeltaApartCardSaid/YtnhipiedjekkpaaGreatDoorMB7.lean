/- What the code of this statement does, over values that stand for data: an executor of the model's code, that it is sound, and contracts of functions: part 7. No condition is added to the statement. -/
import Derived.Test.YtnhipiedjekkpaaGreatDoorMB6
import Derived.ChangeArms
import Derived.SizedLaws
import Derived.Test.YtnhipiedjekkpaaGreatDoorRows
import Derived.ProofKit
import Derived.LaidMore
import Derived.OpenShut
import Derived.Stop.Joined
import Derived.Deep.Strs
import Derived.Shelf.Vars
set_option linter.unusedVariables false
set_option linter.unusedSimpArgs false
section
namespace Go.Proofs.YtnhipiedjekkpaaGreatDoor.AX
open Go Go.RowKit AXP
theorem list_of {α : Type} {Q : Nat → α → Prop} : ∀ n : Nat, (∀ i, i < n → ∃ x, Q i x) → ∃ l : List α, l.length = n ∧ ∀ i x, l[i]? = some x → Q i x
  | 0, _ => ⟨[], rfl, fun i x h => by simp at h⟩
  | n + 1, h => by
    obtain ⟨l, hl, hq⟩ := list_of n fun i hi => h i (by omega)
    obtain ⟨x, hx⟩ := h n (by omega)
    refine ⟨l ++ [x], by rw [List.length_append, hl]; rfl, fun i y hy => ?_⟩
    rcases Nat.lt_or_ge i n with z | z
    · rw [List.getElem?_append_left (by omega)] at hy; exact hq i y hy
    · rw [List.getElem?_append_right (by omega), hl] at hy
      have : i - n = 0 := by
        rcases Nat.eq_zero_or_pos (i - n) with w | w
        · exact w
        · rw [List.getElem?_eq_none (by simp only [List.length_cons, List.length_nil]; omega)] at hy; cases hy
      rw [this] at hy
      obtain rfl : x = y := by simpa using hy
      obtain rfl : i = n := by omega
      exact hx
theorem mapM_spec {α : Type} (f : Nat → Option α) : ∀ (l : List Nat) (cs : List α), l.mapM f = some cs → cs.length = l.length ∧ ∀ (j : Nat) (u : α), cs[j]? = some u → ∃ i, l[j]? = some i ∧ f i = some u
  | [], cs, h => by simp at h; subst h; exact ⟨rfl, fun j u h => by simp at h⟩
  | i :: l, cs, h => by
    simp only [List.mapM_cons, Option.bind_eq_bind, Option.bind_eq_some_iff, Option.pure_def, Option.some.injEq] at h
    obtain ⟨x, hx, ys, hy, rfl⟩ := h
    obtain ⟨h1, h2⟩ := mapM_spec f l ys hy
    refine ⟨by simp [h1], fun j u hu => ?_⟩
    cases j with
    | zero => simp at hu; subst hu; exact ⟨i, rfl, hx⟩
    | succ j => simpa using h2 j u (by simpa using hu)
theorem cells_spec {w : World} {base n : Nat} {a : Addr} {cs : List Value} (h : w.cells? base a n = some cs) : cs.length = n ∧ ∀ j u, cs[j]? = some u → w.cell? (a.add j) = some u := by
  unfold World.cells? at h
  split at h
  · obtain ⟨h1, h2⟩ := mapM_spec _ _ _ h
    refine ⟨by simpa using h1, fun j u hu => ?_⟩
    obtain ⟨i, hi, hf⟩ := h2 j u hu
    obtain ⟨hlt, e⟩ := List.getElem?_eq_some_iff.1 hi
    simp at e
    subst e
    exact hf
  · cases h
theorem spot_of {w : World} {a : Addr} {v : Value} (h : w.cell? a = some v) : a.spot = none := by
  unfold World.cell? at h
  split at h
  · split at h
    · cases h
    · rename_i hs; simpa using hs
  · cases h
section
variable {H : Type} {enc : TypeId × Value → H} {w : World} {base : Nat} {spare : Nat → Bool} {held : Bool} {O : Nat → Prop} {I : Im}
def Small (t : TypeId) (d : DataW H) : Prop := ∀ n ∈ d.weights Tryz.prog t, n ≤ reachBytes
theorem small_all {e : TypeId} : ∀ {ds : List (DataW H)} {i : Nat} {d : DataW H}, ds[i]? = some d → ∀ n ∈ d.weights Tryz.prog e, n ∈ DataW.weightsAll Tryz.prog e ds
  | [], _, _, h, _, _ => by simp at h
  | x :: ds, 0, d, h, n, hn => by simp at h; subst h; rw [DataW.weightsAll]; exact List.mem_append.2 (.inl hn)
  | x :: ds, i + 1, d, h, n, hn => by rw [DataW.weightsAll]; exact List.mem_append.2 (.inr (small_all (by simpa using h) n hn))
theorem open_row {t : Ty} (Pd : den t → Prop) {e sl : TypeId} (hu : Tryz.prog.underlying sl = some (.slice e)) (hc : Tryz.prog.cellsOf e = width t) (hb : 1 ≤ Tryz.prog.bytesOf e) (hO : ∀ b, ¬ O b)
    {m : Nat} {cs : List Value} {y : DataW H × List MemPlace} (h : DataW.trod enc Tryz.prog w base spare held m sl cs = some y) (hs : Small sl y.1)
    (hel : ∀ (n : Nat) (c : List Value) (z : DataW H × List MemPlace), n < m → c.length = width t → DataW.trod enc Tryz.prog w base spare held n e c = some z → Small e z.1 → ∃ x : den t, All2 (LeafR w O I) c (leaves t x) ∧ Pd x) :
    ∃ (v : Value) (l : List (den t)), cs = [v] ∧ LeafR w O I v (.row t l) ∧ ∀ x ∈ l, Pd x := by
  rcases DataW.trod_slice hu h with ⟨rfl, _⟩ | ⟨a, len, cap, elems, rest, n, rfl, rfl, rfl, _, hl, _, hlen, hels, _, _⟩
  · exact ⟨_, [], rfl, .row0 t, fun x hx => nomatch hx⟩
  · have hW := width_pos t
    rw [hc] at hels
    have hsz : len ≤ maxSl := by
      have h1 := hs ((((elems.map (·.1)).length + (rest.map (·.1)).length) * Tryz.prog.bytesOf e)) (by simp only [DataW.weights, hu]; exact .head _)
      simp only [List.length_map] at h1
      have : len ≤ (elems.length + rest.length) * Tryz.prog.bytesOf e := by
        rw [hlen]; exact Nat.le_trans (Nat.le_add_right _ _) (Nat.le_mul_of_pos_right _ hb)
      unfold reachBytes at h1
      unfold maxSl
      omega
    obtain ⟨l, hll, hq⟩ := list_of (Q := fun i (x : den t) => ∃ c : List Value, c.length = width t ∧ (All2 (LeafR w O I) c (leaves t x) ∧ Pd x) ∧ ∀ j u, c[j]? = some u → w.cell? (a.add (i * width t + j)) = some u) len fun i hi => by
      have h1 := hels i hi
      obtain ⟨z, hz⟩ : ∃ z, elems[i]? = some z := ⟨_, List.getElem?_eq_getElem (by omega)⟩
      rw [hz] at h1
      obtain ⟨c, hcc, ht⟩ := Option.bind_eq_some_iff.1 h1
      obtain ⟨g1, g2⟩ := cells_spec hcc
      have hsz' : Small e z.1 := fun k hk => hs k (by
        simp only [DataW.weights, hu]
        exact .tail _ (List.mem_append.2 (.inl (small_all (i := i) (by rw [List.getElem?_map, hz]; rfl) k hk))))
      obtain ⟨x, hx⟩ := hel n c z (Nat.lt_succ_self _) g1 ht hsz'
      refine ⟨x, c, g1, hx, fun j u hu' => ?_⟩
      have := g2 j u hu'
      unfold Addr.add at this ⊢
      by_cases hj : j = 0
      · subst hj; simpa using this
      · rw [if_neg hj] at this
        rw [if_neg (by omega)]
        split at this
        · rename_i h0; rw [h0, Nat.zero_add]; exact this
        · simpa [Nat.add_assoc] using this
    refine ⟨_, l, rfl, ?_, fun x hx => by obtain ⟨i, hi, rfl⟩ := List.getElem_of_mem hx; obtain ⟨_, _, k2, _⟩ := hq i l[i] (List.getElem?_eq_getElem hi); exact k2.2⟩
    rcases Nat.eq_zero_or_pos len with h0 | h0
    · have : l = [] := List.eq_nil_of_length_eq_zero (by omega)
      subst this
      subst h0
      exact .rowz a cap t
    · have hcell : ∀ j, j < len * width t → ∃ u, w.cell? (a.add j) = some u ∧ ∀ x, (cellsOf t l)[j]? = some x → LeafR w O I u x := fun j hj => by
        have hd : j / width t < l.length := by rw [hll]; exact Nat.div_lt_of_lt_mul (by rw [Nat.mul_comm]; exact hj)
        obtain ⟨c, k1, ⟨k2, _⟩, k3⟩ := hq (j / width t) l[j / width t] (List.getElem?_eq_getElem hd)
        have hm : j % width t < c.length := by rw [k1]; exact Nat.mod_lt _ hW
        have h3 := k3 (j % width t) c[j % width t] (List.getElem?_eq_getElem hm)
        have hj' : j / width t * width t + j % width t = j := by rw [Nat.mul_comm]; exact Nat.div_add_mod j (width t)
        rw [hj'] at h3
        refine ⟨_, h3, fun x hx => ?_⟩
        rw [cellsOf_get hd] at hx
        obtain ⟨y', hy', hr⟩ := k2.get' (List.getElem?_eq_getElem hm)
        rw [hx] at hy'; injection hy' with hy'; subst hy'; exact hr
      obtain ⟨b, off, sp⟩ := a
      obtain ⟨u0, hu0, _⟩ := hcell 0 (Nat.mul_pos h0 hW)
      have hsp : sp = none := spot_of hu0
      subst hsp
      have key := LeafR.row (w := w) (O := O) (I := I) b off cap t l ((List.range (len * width t)).map fun j => (w.cell? ⟨b, off + j, none⟩).getD (.bool false)) (fun _ => hO b) (by omega) (by omega) (fun j u hu' => ?_) (by simp only [List.length_map, List.length_range]; rw [cellsOf_length, hll]) (fun j u x hu' hx => ?_)
      · rw [hll] at key; exact key
      · simp only [List.getElem?_map, Option.map_eq_some_iff] at hu'
        obtain ⟨k, hk, rfl⟩ := hu'
        obtain ⟨hlt, e'⟩ := List.getElem?_eq_some_iff.1 hk
        simp at e' hlt
        subst e'
        obtain ⟨u1, hu1, _⟩ := hcell j hlt
        have e2 : (⟨b, off, none⟩ : Addr).add j = ⟨b, off + j, none⟩ := by unfold Addr.add; split <;> simp_all
        rw [e2] at hu1
        rw [hu1]; rfl
      · simp only [List.getElem?_map, Option.map_eq_some_iff] at hu'
        obtain ⟨k, hk, rfl⟩ := hu'
        obtain ⟨hlt, e'⟩ := List.getElem?_eq_some_iff.1 hk
        simp at e' hlt
        subst e'
        obtain ⟨u1, hu1, hr⟩ := hcell j hlt
        have e2 : (⟨b, off, none⟩ : Addr).add j = ⟨b, off + j, none⟩ := by unfold Addr.add; split <;> simp_all
        rw [e2] at hu1
        rw [hu1]
        exact hr x hx
/-- A field's reading. -/
theorem field_of {t : TypeId} {fs : Array Field} (hu : Tryz.prog.underlying t = some (.struct fs)) {m : Nat} {cs : List Value} {y : DataW H × List MemPlace} (h : DataW.trod enc Tryz.prog w base spare held m t cs = some y) (hs : Small t y.1) (i : Nat) (f : Field) (hf : fs[i]? = some f) :
    ∃ (n : Nat) (z : DataW H × List MemPlace), n < m ∧ DataW.trod enc Tryz.prog w base spare held n f.type ((cs.drop f.offset).take (Tryz.prog.cellsOf f.type)) = some z ∧ Small f.type z.1 := by
  obtain ⟨xs, n, rfl, rfl, _, hlen, hff⟩ := DataW.trod_struct hu h
  have hlt : i < xs.length := by rw [hlen]; exact (Array.getElem?_eq_some_iff.1 hf).1
  refine ⟨n, xs[i], Nat.lt_succ_self _, by rw [hff i f hf, List.getElem?_eq_getElem hlt], fun k hk => hs k ?_⟩
  simp only [DataW.weights, hu]
  refine DataW.weights_mem_each (j := i) (t := f.type) (d := xs[i].1) ?_ ?_ k hk
  · rw [List.getElem?_map, Array.getElem?_toList, hf]; rfl
  · rw [List.getElem?_map, List.getElem?_eq_getElem hlt]; rfl
theorem struct_len {t : TypeId} {fs : Array Field} (hu : Tryz.prog.underlying t = some (.struct fs)) {m : Nat} {cs : List Value} {y : DataW H × List MemPlace} (h : DataW.trod enc Tryz.prog w base spare held m t cs = some y) : cs.length = Tryz.prog.cellsOf t := by
  obtain ⟨_, _, _, _, hl, _, _⟩ := DataW.trod_struct hu h
  exact hl
theorem wf_inI {n : Int} (h : (Lit.int .i64 n).wf = true) : inI n := by
  have h : (decide (IntKind.i64.min ≤ n) && decide (n ≤ IntKind.i64.max)) = true := h
  rw [Bool.and_eq_true, decide_eq_true_eq, decide_eq_true_eq, show IntKind.i64.min = -9223372036854775808 by decide, show IntKind.i64.max = 9223372036854775807 by decide] at h
  exact ⟨h.1, by omega⟩
theorem open_int1 {m : Nat} {cs : List Value} {y : DataW H × List MemPlace} (h : DataW.trod enc Tryz.prog w base spare held m 3 cs = some y) : ∃ n, cs = [.int .i64 n] ∧ inI n := by
  obtain ⟨n, e, _, hw⟩ := DataW.trod_int Tryz.underlying3 h
  exact ⟨n, e, wf_inI hw⟩
theorem open_str1 {m : Nat} {cs : List Value} {y : DataW H × List MemPlace} (h : DataW.trod enc Tryz.prog w base spare held m 9 cs = some y) (hs : Small 9 y.1) : ∃ s : ByteArray, cs = [.string s] ∧ s.size ≤ maxSl := by
  obtain ⟨s, e, rfl, _⟩ := DataW.trod_string Tryz.underlying9 h
  refine ⟨s, e, ?_⟩
  have := hs s.data.toList.length (by simp [DataW.weights])
  rw [Array.length_toList] at this
  have h2 : s.size ≤ reachBytes := this
  unfold reachBytes at h2
  unfold maxSl
  omega
theorem cells_int : Tryz.prog.cellsOf 3 = 1 := by kernel_rfl
theorem cells_str : Tryz.prog.cellsOf 9 = 1 := by kernel_rfl
theorem cells_ints : Tryz.prog.cellsOf 48 = 1 := by kernel_rfl
theorem cells_ats : Tryz.prog.cellsOf 49 = 1 := by kernel_rfl
theorem cells_nds : Tryz.prog.cellsOf 50 = 1 := by kernel_rfl
theorem cells_at : Tryz.prog.cellsOf 95 = 2 := by kernel_rfl
theorem cells_nd : Tryz.prog.cellsOf 52 = 6 := by kernel_rfl
theorem open_ints (hO : ∀ b, ¬ O b) {m : Nat} {cs : List Value} {y : DataW H × List MemPlace} (h : DataW.trod enc Tryz.prog w base spare held m 48 cs = some y) (hs : Small 48 y.1) : ∃ (v : Value) (l : List Int), cs = [v] ∧ LeafR w O I v (.row .int l) ∧ ∀ n ∈ l, inI n :=
  open_row (t := .int) inI Tryz.underlying48 cells_int (Nat.le_of_ble_eq_true (by kernel_rfl)) hO h hs fun n c z _ _ hz _ => by
    obtain ⟨k, rfl, hk⟩ := open_int1 hz
    exact ⟨k, .cons (.int _ _) .nil, hk⟩
set_option maxRecDepth 100000
theorem open_ats (hO : ∀ b, ¬ O b) {m : Nat} {cs : List Value} {y : DataW H × List MemPlace} (h : DataW.trod enc Tryz.prog w base spare held m 49 cs = some y) (hs : Small 49 y.1) : ∃ (v : Value) (l : List At), cs = [v] ∧ LeafR w O I v (.row .attr l) ∧ ∀ x ∈ l, True :=
  open_row (t := .attr) (fun _ => True) Tryz.underlying49 cells_at (Nat.le_of_ble_eq_true (by kernel_rfl)) hO h hs fun n c z _ hl hz hsz => by
    obtain ⟨_, z0, _, g0, s0⟩ := field_of Tryz.underlying95 hz hsz 0 _ rfl
    obtain ⟨_, z1, _, g1, s1⟩ := field_of Tryz.underlying95 hz hsz 1 _ rfl
    obtain ⟨x0, e0, b0⟩ := open_str1 g0 s0
    obtain ⟨x1, e1, b1⟩ := open_str1 g1 s1
    match c, hl with
    | [c0, c1], _ =>
      simp [cells_str] at e0 e1
      subst e0 e1
      exact ⟨⟨x0, x1⟩, .cons (.str _ b0) (.cons (.str _ b1) .nil), trivial⟩
theorem open_nd (hO : ∀ b, ¬ O b) : ∀ (m : Nat) {cs : List Value} {y : DataW H × List MemPlace}, DataW.trod enc Tryz.prog w base spare held m 52 cs = some y → Small 52 y.1 → ∃ x : Nd, All2 (LeafR w O I) cs (nodeL x) ∧ rngNd x := by
  intro m
  induction m using Nat.strongRecOn with
  | ind m ih =>
    intro cs y h hs
    obtain ⟨_, z0, _, g0, s0⟩ := field_of Tryz.underlying52 h hs 0 _ rfl
    obtain ⟨_, z1, _, g1, s1⟩ := field_of Tryz.underlying52 h hs 1 _ rfl
    obtain ⟨_, z2, _, g2, s2⟩ := field_of Tryz.underlying52 h hs 2 _ rfl
    obtain ⟨_, z3, _, g3, s3⟩ := field_of Tryz.underlying52 h hs 3 _ rfl
    obtain ⟨_, z4, _, g4, s4⟩ := field_of Tryz.underlying52 h hs 4 _ rfl
    obtain ⟨n5, z5, l5, g5, s5⟩ := field_of Tryz.underlying52 h hs 5 _ rfl
    have hlen := struct_len Tryz.underlying52 h
    rw [cells_nd] at hlen
    obtain ⟨x0, e0, i0⟩ := open_int1 g0
    obtain ⟨x1, e1, i1⟩ := open_int1 g1
    obtain ⟨x2, e2, b2⟩ := open_str1 g2 s2
    obtain ⟨v3, x3, e3, r3, _⟩ := open_ats (I := I) hO g3 s3
    obtain ⟨x4, e4, b4⟩ := open_str1 g4 s4
    obtain ⟨v5, x5, e5, r5, i5⟩ := open_row (t := .node) (I := I) rngNd Tryz.underlying50 cells_nd (Nat.le_of_ble_eq_true (by kernel_rfl)) hO g5 s5 fun n c z hn _ hz hsz => ih n (by omega) hz hsz
    match cs, hlen with
    | [c0, c1, c2, c3, c4, c5], _ =>
      simp [cells_int, cells_str, cells_ats, cells_nds] at e0 e1 e2 e3 e4 e5
      subst e0 e1 e2 e3 e4 e5
      exact ⟨⟨x0, x1, x2, x3, x4, x5⟩, .cons (.int _ _) (.cons (.int _ _) (.cons (.str _ b2) (.cons r3 (.cons (.str _ b4) (.cons r5 .nil))))), by rw [rngNd]; exact ⟨i0, i1, rngNds_of i5⟩⟩
theorem open_nds (hO : ∀ b, ¬ O b) {m : Nat} {cs : List Value} {y : DataW H × List MemPlace} (h : DataW.trod enc Tryz.prog w base spare held m 50 cs = some y) (hs : Small 50 y.1) : ∃ (v : Value) (l : List Nd), cs = [v] ∧ LeafR w O I v (.row .node l) ∧ rngNds l := by
  obtain ⟨v, l, e, r, i⟩ := open_row (t := .node) (I := I) rngNd Tryz.underlying50 cells_nd (Nat.le_of_ble_eq_true (by kernel_rfl)) hO h hs fun n c z _ _ hz hsz => open_nd hO n hz hsz
  exact ⟨v, l, e, r, rngNds_of i⟩
end
/-- A slice that came in. -/
theorem opened {H : Type} {enc : TypeId × Value → H} {w : World} {spare : Nat → Bool} {held : Bool} {t : TypeId} {v : Value} {d : DataW H} {p : List MemPlace} (h : DataW.Trod enc Tryz.prog w 0 spare held t v d p) : ∃ m, DataW.trod enc Tryz.prog w 0 spare held m t v.cells.toList = some (d, p) := h
end Go.Proofs.YtnhipiedjekkpaaGreatDoor.AX
end
section
namespace Go.Proofs.YtnhipiedjekkpaaGreatDoor.AX
open Go Go.RowKit AXP
set_option maxRecDepth 100000
section
variable {H : Type} {enc : TypeId × Value → H} {w : World} {base : Nat} {spare : Nat → Bool} {held : Bool} {O : Nat → Prop} {I : Im}
theorem cells_ed : Tryz.prog.cellsOf 54 = 14 := by kernel_rfl
theorem open_eds (hO : ∀ b, ¬ O b) {m : Nat} {cs : List Value} {y : DataW H × List MemPlace} (h : DataW.trod enc Tryz.prog w base spare held m 22 cs = some y) (hs : Small 22 y.1) : ∃ (v : Value) (l : List Ed), cs = [v] ∧ LeafR w O I v (.row .edit l) ∧ rngEds l :=
  open_row (t := .edit) rngEd Tryz.underlying22 cells_ed (Nat.le_of_ble_eq_true (by kernel_rfl)) hO h hs fun n c z _ hl hz hsz => by
    obtain ⟨_, z0, _, g0, s0⟩ := field_of Tryz.underlying54 hz hsz 0 _ rfl
    obtain ⟨_, z1, _, g1, s1⟩ := field_of Tryz.underlying54 hz hsz 1 _ rfl
    obtain ⟨_, z2, _, g2, s2⟩ := field_of Tryz.underlying54 hz hsz 2 _ rfl
    obtain ⟨_, z3, _, g3, s3⟩ := field_of Tryz.underlying54 hz hsz 3 _ rfl
    obtain ⟨x0, e0, i0⟩ := open_int1 g0
    obtain ⟨v1, x1, e1, r1, i1⟩ := open_ints (I := I) hO g1 s1
    obtain ⟨x2, r2, i2⟩ := open_nd (I := I) hO _ g2 s2
    obtain ⟨x3, r3, i3⟩ := open_nd (I := I) hO _ g3 s3
    match c, hl with
    | [c0, c1, c2, c3, c4, c5, c6, c7, c8, c9, c10, c11, c12, c13], _ =>
      simp [cells_int, cells_ints] at e0 e1
      subst e0 e1
      simp [cells_nd] at r2 r3
      refine ⟨⟨x0, x1, x2, x3⟩, .cons (.int _ _) (.cons r1 ?_), i0, i1, i2, i3⟩
      exact r2.append r3
end
end Go.Proofs.YtnhipiedjekkpaaGreatDoor.AX
end
section
namespace Go.Proofs.YtnhipiedjekkpaaGreatDoor.AX
open Go Go.ChangeShapes Go.WideShapes Go.ChangeAt Go.RowKit
def encTw (a : Tw) : List Value := [.int .i64 a.a, .int .i64 a.b]
theorem take_at {α : Type} {cs e : List α} {a n i : Nat} {u : α} (h : (cs.drop a).take n = e) (hu : e[i]? = some u) : cs[a + i]? = some u := by
  subst h
  rw [List.getElem?_take] at hu
  split at hu
  · rwa [List.getElem?_drop] at hu
  · cases hu
/-- The cells of an array that reads as a list of records. -/
theorem cells_of_array {α H : Type} {enc0 : TypeId × Value → H} {P : Program} {w : World} {base : Nat} {spare : Nat → Bool} {held : Bool} {fuel : Nat} {t e : TypeId} {n sz : Nat} {cs : List Value} {p : List MemPlace} (ht : P.underlying t = some (.array n e)) (hsz : P.cellsOf e = sz)
    (encd : α → DataW H) (enc : α → List Value) (l : List α) (hl : l.length = n)
    (hone : ∀ m a c q, DataW.trod enc0 P w base spare held m e c = some (encd a, q) → c = enc a)
    (h : DataW.trod enc0 P w base spare held fuel t cs = some (.agg (l.map encd), p)) : ∀ j a, l[j]? = some a → ∀ i u, (enc a)[i]? = some u → cs[j * sz + i]? = some u := by
  obtain ⟨xs, m, _, hx, _, hxl, hel⟩ := DataW.trod_array ht h
  simp only [Prod.mk.injEq, DataW.agg.injEq] at hx
  intro j a ha i u hu
  have hj : j < n := by rw [← hl]; exact (List.getElem?_eq_some_iff.1 ha).1
  have h1 := hel j hj
  rw [hsz] at h1
  have h2 : (xs.map (·.1))[j]? = (l.map encd)[j]? := by rw [hx.1]
  rw [List.getElem?_map, List.getElem?_map, ha] at h2
  obtain ⟨⟨d, q⟩, hq, hd⟩ := Option.map_eq_some_iff.1 h2
  simp only at hd
  subst hd
  rw [hq] at h1
  exact take_at (hone _ _ _ _ h1) hu
theorem rec2 {H : Type} {enc0 : TypeId × Value → H} {w : World} {base : Nat} {spare : Nat → Bool} {held : Bool} {T : TypeId} {f0 f1 : Field} (hT : Tryz.prog.underlying T = some (.struct #[f0, f1])) (h0 : f0.type = 3 ∧ f0.offset = 0) (h1 : f1.type = 3 ∧ f1.offset = 1) (hc : Tryz.prog.cellsOf T = 2)
    (m : Nat) (a : Tw) (c : List Value) (q : List MemPlace) (h : DataW.trod enc0 Tryz.prog w base spare held m T c = some (.agg [.lit (.int .i64 a.1), .lit (.int .i64 a.2)], q)) : c = encTw a := by
  obtain ⟨y0, y1, n, hx, hl, g0, g1⟩ := trod_struct2 hT h
  have c3 : Tryz.prog.cellsOf 3 = 1 := by kernel_rfl
  rw [h0.1, h0.2, c3] at g0
  rw [h1.1, h1.2, c3] at g1
  rw [hc] at hl
  obtain ⟨x0, e0, rfl, _⟩ := DataW.trod_int Tryz.underlying3 g0
  obtain ⟨x1, e1, rfl, _⟩ := DataW.trod_int Tryz.underlying3 g1
  simp only [Prod.mk.injEq, DataW.agg.injEq, List.cons.injEq, DataW.lit.injEq, Lit.int.injEq, true_and, and_true] at hx
  match c, hl with
  | [c0, c1], _ =>
    simp at e0 e1
    subst e0 e1
    obtain ⟨⟨r0, r1⟩, _⟩ := hx
    simp [encTw, r0, r1]
/-- One variable out of the list. -/
theorem laid_mem {P : Program} {w : World} : ∀ {l : List (String × DataW Unit)} {ps : List MemPlace}, DataW.LaidVars P w l ps → ∀ n d, (n, d) ∈ l →
    ∃ g t cs fuel p, P.globalNamed n = some g ∧ (P.globals[g]?).map (·.type) = some t ∧ w.var? P n = some cs ∧ DataW.trod (fun _ => ()) P w 0 (fun _ => true) false fuel t cs.toList = some (d, p)
  | [], _, _, _, _, h => by simp at h
  | (n0, d0) :: r, ps, ⟨g, t, cs, fuel, p, q, h1, h2, h3, h4, hr, _⟩, n, d, h => by
    rcases List.mem_cons.1 h with h | h
    · obtain ⟨rfl, rfl⟩ := Prod.mk.inj h
      exact ⟨g, t, cs, fuel, p, h1, h2, h3, h4⟩
    · exact laid_mem hr n d h
theorem var_cells {W : World} {n : String} {g : Nat} {t : TypeId} {d : DataW Unit} {l : List (String × DataW Unit)} (hl : laidMet Tryz.prog l W) (hm : (n, d) ∈ l) (hg : Tryz.prog.globalNamed n = some g) (ht : (Tryz.prog.globals[g]?).map (·.type) = some t) :
    ∃ (cs : Array Value) (fuel : Nat) (p : List MemPlace), DataW.trod (fun _ => ()) Tryz.prog W 0 (fun _ => true) false fuel t cs.toList = some (d, p) ∧ ∀ i : Nat, W.cell? ⟨g, i, none⟩ = cs.toList[i]? := by
  obtain ⟨ps, hv, _, _⟩ := hl
  obtain ⟨g', t', cs, fuel, p, h1, h2, h3, h4⟩ := laid_mem hv n d hm
  obtain rfl := Option.some.inj (hg.symm.trans h1)
  obtain rfl := Option.some.inj (ht.symm.trans h2)
  exact ⟨cs, fuel, p, h4, fun i => by rw [World.var?_cell hg h3 i]; simp⟩
theorem maxlen_of {W : World} (h : W.ShapedOpen Tryz.prog) : ∃ m, W.cell? ⟨1, 0, none⟩ = some (.int .i64 m) :=
  cell_of_shapedOpen_int (t := 3) (zero := #[.int .i64 0]) h (of_decide_eq_true (by kernel_rfl)) (by kernel_rfl) rfl (by kernel_rfl) (by kernel_rfl) Tryz.underlying3
def uRows : List Tw := [⟨0, 0⟩, ⟨0, 0⟩, ⟨192, 128⟩, ⟨224, 2048⟩, ⟨240, 65536⟩]
theorem glob_of {W : World} {l : List (String × DataW Unit)} {O : Nat → Prop} (hO : ∀ b, ¬ O b) (hl : laidMet Tryz.prog l W) (m0 : ("recto/utf.rows", Rows.laid_recto_utf_rows) ∈ l) (hs : W.ShapedOpen Tryz.prog) : GOK cx0.tid W O := by
  have c58 : Tryz.prog.cellsOf 173 = 2 := by kernel_rfl
  obtain ⟨cs, fuel, p, h, hc⟩ := var_cells hl m0 (show Tryz.prog.globalNamed "recto/utf.rows" = some 0 by kernel_rfl) (show (Tryz.prog.globals[0]?).map (·.type) = some 174 by kernel_rfl)
  have r0 : ∀ j a, uRows[j]? = some a → ∀ i u, (encTw a)[i]? = some u → W.cell? ⟨0, j * 2 + i, none⟩ = some u := fun j a ha i u hu => (hc _).trans (cells_of_array Tryz.underlying174 c58 (fun a : Tw => .agg [.lit (.int .i64 a.1), .lit (.int .i64 a.2)]) encTw uRows rfl (fun m a c q => rec2 Tryz.underlying173 ⟨rfl, rfl⟩ ⟨rfl, rfl⟩ c58 m a c q) h j a ha i u hu)
  refine ⟨fun q hq => ?_, fun g hg => ?_⟩
  · have hq : q ∈ [Glo.mk 0 .two uRows] := hq
    rw [List.mem_singleton] at hq
    subst hq
    refine ⟨by kernel_rfl, hO _, World.block_lt_of_cell? W _ (r0 0 _ rfl 0 _ rfl), fun j a ha => ?_⟩
    have hj : j < (cellsOf .two uRows).length := (List.getElem?_eq_some_iff.1 ha).1
    rw [cellsOf_length] at hj
    have hd : j / width .two < uRows.length := Nat.div_lt_of_lt_mul (by rw [Nat.mul_comm]; exact hj)
    rw [cellsOf_get hd] at ha
    have e : ∀ (x : Tw) (i : Nat) (a : AV), (leaves .two x)[i]? = some a → (encTw x)[i]? = some (flatV a) := fun x i a h => by
      match i, h with
      | 0, h => cases h; rfl
      | 1, h => cases h; rfl
    have := r0 (j / 2) uRows[j / width .two] (List.getElem?_eq_getElem hd) (j % 2) (flatV a) (e _ _ _ ha)
    rw [show j / 2 * 2 + j % 2 = j by omega] at this
    exact this
  · have hg : g ∈ [1] := hg
    rw [List.mem_singleton] at hg
    subst hg
    exact ⟨hO _, maxlen_of hs⟩
end Go.Proofs.YtnhipiedjekkpaaGreatDoor.AX
end
