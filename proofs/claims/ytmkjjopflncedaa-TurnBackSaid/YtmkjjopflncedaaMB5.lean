/- What the code of this statement does, over values that stand for data: an executor of the model's code, that it is sound, and contracts of functions: part 5. No condition is added to the statement. -/
import Derived.Test.YtmkjjopflncedaaMB4
import Derived.ChangeArms
import Derived.SizedLaws
set_option linter.unusedVariables false
set_option linter.unusedSimpArgs false
section
namespace Go.Proofs.Ytmkjjopflncedaa.AX
open Go Go.RowKit
theorem list_of {α : Type} {Q : Nat → α → Prop} : ∀ n : Nat, (∀ i, i < n → ∃ x, Q i x) → ∃ l : List α, l.length = n ∧ ∀ i x, l[i]? = some x → Q i x
  | 0, _ => ⟨[], rfl, fun i x h => by simp at h⟩
  | n + 1, h => by
    obtain ⟨l, hl, hq⟩ := list_of n fun i hi => h i (by omega)
    obtain ⟨x, hx⟩ := h n (by omega)
    refine ⟨l ++ [x], by rw [List.length_append, hl]; rfl, fun i y hy => ?_⟩
    rcases Nat.lt_or_ge i n with z | z
    · rw [List.getElem?_append_left (by omega)] at hy; exact hq i y hy
    · rw [List.getElem?_append_right (by omega), hl] at hy
      have : i - n = 0 := by
        rcases Nat.eq_zero_or_pos (i - n) with w | w
        · exact w
        · rw [List.getElem?_eq_none (by simp only [List.length_cons, List.length_nil]; omega)] at hy; cases hy
      rw [this] at hy
      obtain rfl : x = y := by simpa using hy
      obtain rfl : i = n := by omega
      exact hx
theorem mapM_spec {α : Type} (f : Nat → Option α) : ∀ (l : List Nat) (cs : List α), l.mapM f = some cs → cs.length = l.length ∧ ∀ (j : Nat) (u : α), cs[j]? = some u → ∃ i, l[j]? = some i ∧ f i = some u
  | [], cs, h => by simp at h; subst h; exact ⟨rfl, fun j u h => by simp at h⟩
  | i :: l, cs, h => by
    simp only [List.mapM_cons, Option.bind_eq_bind, Option.bind_eq_some_iff, Option.pure_def, Option.some.injEq] at h
    obtain ⟨x, hx, ys, hy, rfl⟩ := h
    obtain ⟨h1, h2⟩ := mapM_spec f l ys hy
    refine ⟨by simp [h1], fun j u hu => ?_⟩
    cases j with
    | zero => simp at hu; subst hu; exact ⟨i, rfl, hx⟩
    | succ j => simpa using h2 j u (by simpa using hu)
theorem cells_spec {w : World} {base n : Nat} {a : Addr} {cs : List Value} (h : w.cells? base a n = some cs) : cs.length = n ∧ ∀ j u, cs[j]? = some u → w.cell? (a.add j) = some u := by
  unfold World.cells? at h
  split at h
  · obtain ⟨h1, h2⟩ := mapM_spec _ _ _ h
    refine ⟨by simpa using h1, fun j u hu => ?_⟩
    obtain ⟨i, hi, hf⟩ := h2 j u hu
    obtain ⟨hlt, e⟩ := List.getElem?_eq_some_iff.1 hi
    simp at e
    subst e
    exact hf
  · cases h
theorem spot_of {w : World} {a : Addr} {v : Value} (h : w.cell? a = some v) : a.spot = none := by
  unfold World.cell? at h
  split at h
  · split at h
    · cases h
    · rename_i hs; simpa using hs
  · cases h
section
variable {H : Type} {enc : TypeId × Value → H} {w : World} {base : Nat} {spare : Nat → Bool} {held : Bool} {O : Nat → Prop} {I : Im}
def Small (t : TypeId) (d : DataW H) : Prop := ∀ n ∈ d.weights Try.prog t, n ≤ reachBytes
theorem small_all {e : TypeId} : ∀ {ds : List (DataW H)} {i : Nat} {d : DataW H}, ds[i]? = some d → ∀ n ∈ d.weights Try.prog e, n ∈ DataW.weightsAll Try.prog e ds
  | [], _, _, h, _, _ => by simp at h
  | x :: ds, 0, d, h, n, hn => by simp at h; subst h; rw [DataW.weightsAll]; exact List.mem_append.2 (.inl hn)
  | x :: ds, i + 1, d, h, n, hn => by rw [DataW.weightsAll]; exact List.mem_append.2 (.inr (small_all (by simpa using h) n hn))
theorem open_row {t : Ty} {e sl : TypeId} (hu : Try.prog.underlying sl = some (.slice e)) (hc : Try.prog.cellsOf e = width t) (hb : 1 ≤ Try.prog.bytesOf e) (hO : ∀ b, ¬ O b)
    {m : Nat} {cs : List Value} {y : DataW H × List MemPlace} (h : DataW.trod enc Try.prog w base spare held m sl cs = some y) (hs : Small sl y.1)
    (hel : ∀ (n : Nat) (c : List Value) (z : DataW H × List MemPlace), n < m → c.length = width t → DataW.trod enc Try.prog w base spare held n e c = some z → Small e z.1 → ∃ x : den t, All2 (LeafR w O I) c (leaves t x)) :
    ∃ (v : Value) (l : List (den t)), cs = [v] ∧ LeafR w O I v (.row t l) := by
  rcases DataW.trod_slice hu h with ⟨rfl, _⟩ | ⟨a, len, cap, elems, rest, n, rfl, rfl, rfl, _, hl, _, hlen, hels, _, _⟩
  · exact ⟨_, [], rfl, .row0 t⟩
  · have hW := width_pos t
    rw [hc] at hels
    have hsz : len ≤ maxSl := by
      have h1 := hs ((((elems.map (·.1)).length + (rest.map (·.1)).length) * Try.prog.bytesOf e)) (by simp only [DataW.weights, hu]; exact .head _)
      simp only [List.length_map] at h1
      have : len ≤ (elems.length + rest.length) * Try.prog.bytesOf e := by
        rw [hlen]; exact Nat.le_trans (Nat.le_add_right _ _) (Nat.le_mul_of_pos_right _ hb)
      unfold reachBytes at h1
      unfold maxSl
      omega
    obtain ⟨l, hll, hq⟩ := list_of (Q := fun i (x : den t) => ∃ c : List Value, c.length = width t ∧ All2 (LeafR w O I) c (leaves t x) ∧ ∀ j u, c[j]? = some u → w.cell? (a.add (i * width t + j)) = some u) len fun i hi => by
      have h1 := hels i hi
      obtain ⟨z, hz⟩ : ∃ z, elems[i]? = some z := ⟨_, List.getElem?_eq_getElem (by omega)⟩
      rw [hz] at h1
      obtain ⟨c, hcc, ht⟩ := Option.bind_eq_some_iff.1 h1
      obtain ⟨g1, g2⟩ := cells_spec hcc
      have hsz' : Small e z.1 := fun k hk => hs k (by
        simp only [DataW.weights, hu]
        exact .tail _ (List.mem_append.2 (.inl (small_all (i := i) (by rw [List.getElem?_map, hz]; rfl) k hk))))
      obtain ⟨x, hx⟩ := hel n c z (Nat.lt_succ_self _) g1 ht hsz'
      refine ⟨x, c, g1, hx, fun j u hu' => ?_⟩
      have := g2 j u hu'
      unfold Addr.add at this ⊢
      by_cases hj : j = 0
      · subst hj; simpa using this
      · rw [if_neg hj] at this
        rw [if_neg (by omega)]
        split at this
        · rename_i h0; rw [h0, Nat.zero_add]; exact this
        · simpa [Nat.add_assoc] using this
    refine ⟨_, l, rfl, ?_⟩
    rcases Nat.eq_zero_or_pos len with h0 | h0
    · have : l = [] := List.eq_nil_of_length_eq_zero (by omega)
      subst this
      subst h0
      exact .rowz a cap t
    · have hcell : ∀ j, j < len * width t → ∃ u, w.cell? (a.add j) = some u ∧ ∀ x, (cellsOf t l)[j]? = some x → LeafR w O I u x := fun j hj => by
        have hd : j / width t < l.length := by rw [hll]; exact Nat.div_lt_of_lt_mul (by rw [Nat.mul_comm]; exact hj)
        obtain ⟨c, k1, k2, k3⟩ := hq (j / width t) l[j / width t] (List.getElem?_eq_getElem hd)
        have hm : j % width t < c.length := by rw [k1]; exact Nat.mod_lt _ hW
        have h3 := k3 (j % width t) c[j % width t] (List.getElem?_eq_getElem hm)
        have hj' : j / width t * width t + j % width t = j := by rw [Nat.mul_comm]; exact Nat.div_add_mod j (width t)
        rw [hj'] at h3
        refine ⟨_, h3, fun x hx => ?_⟩
        rw [cellsOf_get hd] at hx
        obtain ⟨y', hy', hr⟩ := k2.get' (List.getElem?_eq_getElem hm)
        rw [hx] at hy'; injection hy' with hy'; subst hy'; exact hr
      obtain ⟨b, off, sp⟩ := a
      obtain ⟨u0, hu0, _⟩ := hcell 0 (Nat.mul_pos h0 hW)
      have hsp : sp = none := spot_of hu0
      subst hsp
      have key := LeafR.row (w := w) (O := O) (I := I) b off cap t l ((List.range (len * width t)).map fun j => (w.cell? ⟨b, off + j, none⟩).getD (.bool false)) (fun _ => hO b) (by omega) (by omega) (fun j u hu' => ?_) (by simp only [List.length_map, List.length_range]; rw [cellsOf_length, hll]) (fun j u x hu' hx => ?_)
      · rw [hll] at key; exact key
      · simp only [List.getElem?_map, Option.map_eq_some_iff] at hu'
        obtain ⟨k, hk, rfl⟩ := hu'
        obtain ⟨hlt, e'⟩ := List.getElem?_eq_some_iff.1 hk
        simp at e' hlt
        subst e'
        obtain ⟨u1, hu1, _⟩ := hcell j hlt
        have e2 : (⟨b, off, none⟩ : Addr).add j = ⟨b, off + j, none⟩ := by unfold Addr.add; split <;> simp_all
        rw [e2] at hu1
        rw [hu1]; rfl
      · simp only [List.getElem?_map, Option.map_eq_some_iff] at hu'
        obtain ⟨k, hk, rfl⟩ := hu'
        obtain ⟨hlt, e'⟩ := List.getElem?_eq_some_iff.1 hk
        simp at e' hlt
        subst e'
        obtain ⟨u1, hu1, hr⟩ := hcell j hlt
        have e2 : (⟨b, off, none⟩ : Addr).add j = ⟨b, off + j, none⟩ := by unfold Addr.add; split <;> simp_all
        rw [e2] at hu1
        rw [hu1]
        exact hr x hx
/-- A field's reading. -/
theorem field_of {t : TypeId} {fs : Array Field} (hu : Try.prog.underlying t = some (.struct fs)) {m : Nat} {cs : List Value} {y : DataW H × List MemPlace} (h : DataW.trod enc Try.prog w base spare held m t cs = some y) (hs : Small t y.1) (i : Nat) (f : Field) (hf : fs[i]? = some f) :
    ∃ (n : Nat) (z : DataW H × List MemPlace), n < m ∧ DataW.trod enc Try.prog w base spare held n f.type ((cs.drop f.offset).take (Try.prog.cellsOf f.type)) = some z ∧ Small f.type z.1 := by
  obtain ⟨xs, n, rfl, rfl, _, hlen, hff⟩ := DataW.trod_struct hu h
  have hlt : i < xs.length := by rw [hlen]; exact (Array.getElem?_eq_some_iff.1 hf).1
  refine ⟨n, xs[i], Nat.lt_succ_self _, by rw [hff i f hf, List.getElem?_eq_getElem hlt], fun k hk => hs k ?_⟩
  simp only [DataW.weights, hu]
  refine DataW.weights_mem_each (j := i) (t := f.type) (d := xs[i].1) ?_ ?_ k hk
  · rw [List.getElem?_map, Array.getElem?_toList, hf]; rfl
  · rw [List.getElem?_map, List.getElem?_eq_getElem hlt]; rfl
theorem struct_len {t : TypeId} {fs : Array Field} (hu : Try.prog.underlying t = some (.struct fs)) {m : Nat} {cs : List Value} {y : DataW H × List MemPlace} (h : DataW.trod enc Try.prog w base spare held m t cs = some y) : cs.length = Try.prog.cellsOf t := by
  obtain ⟨_, _, _, _, hl, _, _⟩ := DataW.trod_struct hu h
  exact hl
theorem open_int1 {m : Nat} {cs : List Value} {y : DataW H × List MemPlace} (h : DataW.trod enc Try.prog w base spare held m 3 cs = some y) : ∃ n, cs = [.int .i64 n] := by
  obtain ⟨n, e, _, _⟩ := DataW.trod_int Try.underlying3 h
  exact ⟨n, e⟩
theorem open_str1 {m : Nat} {cs : List Value} {y : DataW H × List MemPlace} (h : DataW.trod enc Try.prog w base spare held m 9 cs = some y) (hs : Small 9 y.1) : ∃ s : ByteArray, cs = [.string s] ∧ s.size ≤ maxSl := by
  obtain ⟨s, e, rfl, _⟩ := DataW.trod_string Try.underlying9 h
  refine ⟨s, e, ?_⟩
  have := hs s.data.toList.length (by simp [DataW.weights])
  rw [Array.length_toList] at this
  have h2 : s.size ≤ reachBytes := this
  unfold reachBytes at h2
  unfold maxSl
  omega
theorem cells_int : Try.prog.cellsOf 3 = 1 := by kernel_rfl
theorem cells_str : Try.prog.cellsOf 9 = 1 := by kernel_rfl
theorem cells_ints : Try.prog.cellsOf 58 = 1 := by kernel_rfl
theorem cells_ats : Try.prog.cellsOf 51 = 1 := by kernel_rfl
theorem cells_nds : Try.prog.cellsOf 22 = 1 := by kernel_rfl
theorem cells_at : Try.prog.cellsOf 95 = 2 := by kernel_rfl
theorem cells_nd : Try.prog.cellsOf 53 = 6 := by kernel_rfl
theorem cells_ed : Try.prog.cellsOf 60 = 14 := by kernel_rfl
theorem open_ints (hO : ∀ b, ¬ O b) {m : Nat} {cs : List Value} {y : DataW H × List MemPlace} (h : DataW.trod enc Try.prog w base spare held m 58 cs = some y) (hs : Small 58 y.1) : ∃ (v : Value) (l : List Int), cs = [v] ∧ LeafR w O I v (.row .int l) :=
  open_row (t := .int) Try.underlying58 cells_int (Nat.le_of_ble_eq_true (by kernel_rfl)) hO h hs fun n c z _ _ hz _ => by
    obtain ⟨k, rfl⟩ := open_int1 hz
    exact ⟨k, .cons (.int _ _) .nil⟩
set_option maxRecDepth 100000
theorem open_ats (hO : ∀ b, ¬ O b) {m : Nat} {cs : List Value} {y : DataW H × List MemPlace} (h : DataW.trod enc Try.prog w base spare held m 51 cs = some y) (hs : Small 51 y.1) : ∃ (v : Value) (l : List At), cs = [v] ∧ LeafR w O I v (.row .attr l) :=
  open_row (t := .attr) Try.underlying51 cells_at (Nat.le_of_ble_eq_true (by kernel_rfl)) hO h hs fun n c z _ hl hz hsz => by
    obtain ⟨_, z0, _, g0, s0⟩ := field_of Try.underlying95 hz hsz 0 _ rfl
    obtain ⟨_, z1, _, g1, s1⟩ := field_of Try.underlying95 hz hsz 1 _ rfl
    obtain ⟨x0, e0, b0⟩ := open_str1 g0 s0
    obtain ⟨x1, e1, b1⟩ := open_str1 g1 s1
    match c, hl with
    | [c0, c1], _ =>
      simp [cells_str] at e0 e1
      subst e0 e1
      exact ⟨⟨x0, x1⟩, .cons (.str _ b0) (.cons (.str _ b1) .nil)⟩
theorem open_nd (hO : ∀ b, ¬ O b) : ∀ (m : Nat) {cs : List Value} {y : DataW H × List MemPlace}, DataW.trod enc Try.prog w base spare held m 53 cs = some y → Small 53 y.1 → ∃ x : Nd, All2 (LeafR w O I) cs (nodeL x) := by
  intro m
  induction m using Nat.strongRecOn with
  | ind m ih =>
    intro cs y h hs
    obtain ⟨_, z0, _, g0, s0⟩ := field_of Try.underlying53 h hs 0 _ rfl
    obtain ⟨_, z1, _, g1, s1⟩ := field_of Try.underlying53 h hs 1 _ rfl
    obtain ⟨_, z2, _, g2, s2⟩ := field_of Try.underlying53 h hs 2 _ rfl
    obtain ⟨_, z3, _, g3, s3⟩ := field_of Try.underlying53 h hs 3 _ rfl
    obtain ⟨_, z4, _, g4, s4⟩ := field_of Try.underlying53 h hs 4 _ rfl
    obtain ⟨n5, z5, l5, g5, s5⟩ := field_of Try.underlying53 h hs 5 _ rfl
    have hlen := struct_len Try.underlying53 h
    rw [cells_nd] at hlen
    obtain ⟨x0, e0⟩ := open_int1 g0
    obtain ⟨x1, e1⟩ := open_int1 g1
    obtain ⟨x2, e2, b2⟩ := open_str1 g2 s2
    obtain ⟨v3, x3, e3, r3⟩ := open_ats (I := I) hO g3 s3
    obtain ⟨x4, e4, b4⟩ := open_str1 g4 s4
    obtain ⟨v5, x5, e5, r5⟩ := open_row (t := .node) (I := I) Try.underlying22 cells_nd (Nat.le_of_ble_eq_true (by kernel_rfl)) hO g5 s5 fun n c z hn _ hz hsz => ih n (by omega) hz hsz
    match cs, hlen with
    | [c0, c1, c2, c3, c4, c5], _ =>
      simp [cells_int, cells_str, cells_ats, cells_nds] at e0 e1 e2 e3 e4 e5
      subst e0 e1 e2 e3 e4 e5
      exact ⟨⟨x0, x1, x2, x3, x4, x5⟩, .cons (.int _ _) (.cons (.int _ _) (.cons (.str _ b2) (.cons r3 (.cons (.str _ b4) (.cons r5 .nil)))))⟩
theorem open_nds (hO : ∀ b, ¬ O b) {m : Nat} {cs : List Value} {y : DataW H × List MemPlace} (h : DataW.trod enc Try.prog w base spare held m 22 cs = some y) (hs : Small 22 y.1) : ∃ (v : Value) (l : List Nd), cs = [v] ∧ LeafR w O I v (.row .node l) :=
  open_row (t := .node) Try.underlying22 cells_nd (Nat.le_of_ble_eq_true (by kernel_rfl)) hO h hs fun n c z _ _ hz hsz => open_nd hO n hz hsz
theorem open_eds (hO : ∀ b, ¬ O b) {m : Nat} {cs : List Value} {y : DataW H × List MemPlace} (h : DataW.trod enc Try.prog w base spare held m 23 cs = some y) (hs : Small 23 y.1) : ∃ (v : Value) (l : List Ed), cs = [v] ∧ LeafR w O I v (.row .edit l) :=
  open_row (t := .edit) Try.underlying23 cells_ed (Nat.le_of_ble_eq_true (by kernel_rfl)) hO h hs fun n c z _ hl hz hsz => by
    obtain ⟨_, z0, _, g0, s0⟩ := field_of Try.underlying60 hz hsz 0 _ rfl
    obtain ⟨_, z1, _, g1, s1⟩ := field_of Try.underlying60 hz hsz 1 _ rfl
    obtain ⟨_, z2, _, g2, s2⟩ := field_of Try.underlying60 hz hsz 2 _ rfl
    obtain ⟨_, z3, _, g3, s3⟩ := field_of Try.underlying60 hz hsz 3 _ rfl
    obtain ⟨x0, e0⟩ := open_int1 g0
    obtain ⟨v1, x1, e1, r1⟩ := open_ints (I := I) hO g1 s1
    obtain ⟨x2, r2⟩ := open_nd (I := I) hO _ g2 s2
    obtain ⟨x3, r3⟩ := open_nd (I := I) hO _ g3 s3
    match c, hl with
    | [c0, c1, c2, c3, c4, c5, c6, c7, c8, c9, c10, c11, c12, c13], _ =>
      simp [cells_int, cells_ints] at e0 e1
      subst e0 e1
      simp [cells_nd] at r2 r3
      refine ⟨⟨x0, x1, x2, x3⟩, .cons (.int _ _) (.cons r1 ?_)⟩
      exact r2.append r3
end
/-- A slice that came in. -/
theorem opened {H : Type} {enc : TypeId × Value → H} {w : World} {spare : Nat → Bool} {held : Bool} {t : TypeId} {v : Value} {d : DataW H} {p : List MemPlace} (h : DataW.Trod enc Try.prog w 0 spare held t v d p) : ∃ m, DataW.trod enc Try.prog w 0 spare held m t v.cells.toList = some (d, p) := h
end Go.Proofs.Ytmkjjopflncedaa.AX
end
