/- Ancestors and bases, plainly: what the program marks is what the reference reaches. -/
import Derived.Test.YtgopimjfoppkmaaDoorDPureDag
import Derived.Test.YtgopimjfoppkmaaDoorD8
import Derived.Test.YtgopimjfoppkmaaDoorD9
namespace Go.Proofs.YtgopimjfoppkmaaDoor.D
open Go.RowKit Go.Proofs.YtgopimjfoppkmaaDoorW.PrintWords Go.Proofs.YtgopimjfoppkmaaDoorW.PrintLast

/-! #### a right graph's parents -/
/-- The parents of the revision of number n. -/
def pars (g : G) (n : Int) : List Int := (rd_T43 g (n - 1)).f3
theorem pars_at {g : G} {i : Nat} (hi : i < g.length) : pars g ((i : Int) + 1) = (g[i]).f3 := by
  unfold pars
  rw [show (i : Int) + 1 - 1 = (i : Int) by omega, rdg hi]
theorem par_ok {g : G} (hok : okFrom g 0 = true) {i : Nat} (hi : i < g.length) {p : Int} (hp : p ∈ (g[i]).f3) : 1 ≤ p ∧ p ≤ (i : Int) ∧ (rd_T43 g (p - 1)).f1.toList = (g[i]).f1.toList := by
  have h := ok_all hok hi
  unfold rightB at h
  simp only [Bool.and_eq_true] at h
  obtain ⟨_, _, _, hps⟩ := h
  obtain ⟨j, hj, rfl⟩ := List.mem_iff_getElem.1 hp
  unfold parsB at hps
  have h1 := List.all_eq_true.1 hps j (by rw [List.drop_zero, List.mem_range]; exact hj)
  unfold parB at h1
  rw [rd_get hj] at h1
  simp only [Bool.and_eq_true, decide_eq_true_iff] at h1
  obtain ⟨h2, h3, h4, _⟩ := h1
  rw [List.length_take] at h3
  refine ⟨h2, by omega, ?_⟩
  obtain ⟨q, hq⟩ := Int.eq_ofNat_of_zero_le (show 0 ≤ (g[i]).f3[j] - 1 by omega)
  have hqi : q < i := by omega
  have e : rd_T43 (g.take i) ((g[i]).f3[j] - 1) = rd_T43 g ((g[i]).f3[j] - 1) := by
    rw [hq, show ((q : Nat) : Int) = (q : Int) from rfl, rdg (l := g.take i) (by rw [List.length_take]; omega), rdg (l := g) (by omega), List.getElem_take]
  rw [e] at h4
  exact beq_iff_eq.1 h4
/-- A revision and its ancestors. -/
inductive Anc (g : G) (a : Int) : Int → Prop
  | self : Anc g a a
  | step {n p : Int} : Anc g a n → 1 ≤ n → n ≤ (g.length : Int) → p ∈ pars g n → Anc g a p
theorem Anc.bound {g : G} (hok : okFrom g 0 = true) {a n : Int} (h : Anc g a n) (h1 : 1 ≤ a) : 1 ≤ n ∧ n ≤ a := by
  induction h with
  | self => exact ⟨h1, Int.le_refl _⟩
  | step _ hn hl hp ih =>
    rename_i n p _
    obtain ⟨i, hi⟩ := Int.eq_ofNat_of_zero_le (show 0 ≤ n - 1 by omega)
    obtain rfl : n = (i : Int) + 1 := by omega
    rw [pars_at (by omega)] at hp
    have := par_ok hok (by omega) hp
    omega
/-! #### what the program marks -/
theorem setAll_at (ps : List Int) : ∀ (o : List Bool) (i : Nat), i < o.length → (setAll o ps).getD i false = (o.getD i false || ps.any fun p => decide ((p - 1).toNat = i)) := by
  induction ps with
  | nil => intro o i h; rw [List.any_nil, Bool.or_false]; rfl
  | cons p ps ih =>
    intro o i h
    show (setAll (o.set (p - 1).toNat true) ps).getD i false = _
    rw [ih _ _ (by rw [List.length_set]; exact h), List.any_cons, ← Bool.or_assoc]
    congr 1
    rw [List.getD_eq_getElem?_getD, List.getElem?_set]
    by_cases e : (p - 1).toNat = i
    · rw [if_pos e, decide_eq_true e, if_pos (by omega), Bool.or_true]; rfl
    · rw [if_neg e, decide_eq_false e, Bool.or_false, List.getD_eq_getElem?_getD]
/-- What is so when the revisions from m on have been looked at. -/
structure Mk (g : G) (a : Int) (m : Nat) (o : List Bool) : Prop where
  len : o.length = g.length
  sound : ∀ i, o.getD i false = true → Anc g a ((i : Int) + 1)
  self : o.getD (a - 1).toNat false = true
  closed : ∀ j, m ≤ j → o.getD j false = true → ∀ p ∈ pars g ((j : Int) + 1), o.getD (p - 1).toNat false = true
theorem getD_len {o : List Bool} {i : Nat} (h : o.getD i false = true) : i < o.length := by
  rcases Nat.lt_or_ge i o.length with z | z
  · exact z
  · rw [List.getD_eq_getElem?_getD, List.getElem?_eq_none z] at h; cases h
theorem mk_start {g : G} {a : Int} (h1 : 1 ≤ a) (h2 : a ≤ (g.length : Int)) : Mk g a g.length (setAll (List.replicate g.length false) [a]) where
  len := by rw [setAll_len, List.length_replicate]
  sound := fun i h => by
    have hl := getD_len h
    rw [setAll_len, List.length_replicate] at hl
    rw [setAll_at _ _ _ (by rw [List.length_replicate]; exact hl), List.getD_eq_getElem?_getD, List.getElem?_replicate, if_pos hl] at h
    simp only [Option.getD_some, Bool.false_or, List.any_cons, List.any_nil, Bool.or_false, decide_eq_true_iff] at h
    rw [show (i : Int) + 1 = a by omega]
    exact Anc.self
  self := by
    rw [setAll_at _ _ _ (by rw [List.length_replicate]; omega)]
    simp
  closed := fun j hj h => by
    have hl := getD_len h
    rw [setAll_len, List.length_replicate] at hl
    omega
theorem mk_step {g : G} (hok : okFrom g 0 = true) {a : Int} {q : Nat} (hq : q < g.length) {o : List Bool} (h : Mk g a (q + 1) o) : Mk g a q (markF g o ⟨q, hq⟩) := by
  have hpq : (rd_T43 g ((q : Nat) : Int)).f3 = (g[q]).f3 := by rw [rdg hq]
  unfold markF
  show Mk g a q (if o.getD q false = true then setAll o (rd_T43 g ((q : Nat) : Int)).f3 else o)
  rw [hpq]
  by_cases b : o.getD q false = true
  · rw [if_pos b]
    have at_ : ∀ i, i < o.length → (setAll o (g[q]).f3).getD i false = (o.getD i false || (g[q]).f3.any fun p => decide ((p - 1).toNat = i)) := setAll_at _ _
    have up : ∀ i, o.getD i false = true → (setAll o (g[q]).f3).getD i false = true := fun i hi => by rw [at_ i (getD_len hi), hi, Bool.true_or]
    have par : ∀ p ∈ (g[q]).f3, (setAll o (g[q]).f3).getD (p - 1).toNat false = true := fun p hp => by
      have := par_ok hok hq hp
      rw [at_ _ (by rw [h.len]; omega), Bool.or_eq_true]
      exact Or.inr (List.any_eq_true.2 ⟨p, hp, decide_eq_true rfl⟩)
    refine ⟨by rw [setAll_len, h.len], fun i hi => ?_, up _ h.self, fun j hj hjo p hp => ?_⟩
    · have hl := getD_len hi
      rw [setAll_len] at hl
      rw [at_ i hl, Bool.or_eq_true] at hi
      rcases hi with hi | hi
      · exact h.sound i hi
      · obtain ⟨p, hp, e⟩ := List.any_eq_true.1 hi
        have e := of_decide_eq_true e
        have hb := par_ok hok hq hp
        rw [show (i : Int) + 1 = p by omega]
        exact Anc.step (h.sound q b) (by omega) (by omega) (by rw [pars_at hq]; exact hp)
    · by_cases e : j = q
      · subst e
        rw [pars_at hq] at hp
        exact par p hp
      · have hl := getD_len hjo
        rw [setAll_len] at hl
        rw [at_ j hl, Bool.or_eq_true] at hjo
        rcases hjo with hjo | hjo
        · exact up _ (h.closed j (by omega) hjo p hp)
        · obtain ⟨p', hp', e'⟩ := List.any_eq_true.1 hjo
          have e' := of_decide_eq_true e'
          have := par_ok hok hq hp'
          omega
  · rw [if_neg b]
    refine ⟨h.len, h.sound, h.self, fun j hj hjo p hp => ?_⟩
    by_cases e : j = q
    · subst e; exact absurd hjo b
    · exact h.closed j (by omega) hjo p hp
theorem mk_all {g : G} (hok : okFrom g 0 = true) {a : Int} (h1 : 1 ≤ a) (h2 : a ≤ (g.length : Int)) : ∀ d m, m + d = g.length → Mk g a m (marksF g [a] (dn g.length (g.length - m)))
  | 0, m, h => by
    rw [show g.length - m = 0 by omega, dn_zero]
    have := mk_start h1 h2
    rw [show m = g.length by omega]
    exact this
  | d + 1, m, h => by
    rw [dn_succ (show m < g.length by omega), marksF_snoc]
    exact mk_step hok (by omega) (mk_all hok h1 h2 d (m + 1) (by omega))
/-- Which are marked. -/
def mk (g : G) (a : Int) : List Bool := marksF g [a] (dn g.length g.length)
theorem mk_iff {g : G} (hok : okFrom g 0 = true) {a : Int} (h1 : 1 ≤ a) (h2 : a ≤ (g.length : Int)) (i : Nat) : (mk g a).getD i false = true ↔ Anc g a ((i : Int) + 1) := by
  have h := mk_all hok h1 h2 g.length 0 (by omega)
  rw [Nat.sub_zero] at h
  refine ⟨fun z => h.sound i z, fun z => ?_⟩
  have gen : ∀ n, Anc g a n → (mk g a).getD (n - 1).toNat false = true := fun n hn => by
    induction hn with
    | self => exact h.self
    | step hn' hn1 hnl hp ih =>
      rename_i n p
      refine h.closed (n - 1).toNat (Nat.zero_le _) ih p ?_
      rw [show (((n - 1).toNat : Nat) : Int) + 1 = n by omega]
      exact hp
  have := gen _ z
  rw [show ((i : Int) + 1 - 1).toNat = i by omega] at this
  exact this
theorem okM_of {g : G} (hok : okFrom g 0 = true) (hl : g.length ≤ 1000) {a : Int} (h1 : 1 ≤ a) (h2 : a ≤ (g.length : Int)) : okM g [a] = true := by
  unfold okM
  rw [decide_eq_true (by omega : 0 < g.length), decide_eq_true hl, Bool.true_and, Bool.true_and, Bool.and_eq_true]
  refine ⟨by unfold inAll; simp; omega, List.all_eq_true.2 fun r hr => ?_⟩
  obtain ⟨i, hi, rfl⟩ := List.mem_iff_getElem.1 hr
  unfold inAll
  refine List.all_eq_true.2 fun p hp => ?_
  have := par_ok hok hi hp
  simp only [Bool.and_eq_true, decide_eq_true_iff]
  omega
theorem marks_f {g : G} (hok : okFrom g 0 = true) (hl : g.length ≤ 1000) {a : Int} (h1 : 1 ≤ a) (h2 : a ≤ (g.length : Int)) : dag_marks.f g [a] = some (mk g a) := by
  unfold dag_marks.f
  rw [if_pos (okM_of hok hl h1 h2)]; rfl
theorem mk_len (g : G) (a : Int) : (mk g a).length = g.length := marksF_len _ _ _
/-- The numbers of the places that are marked. -/
def ids (P : Nat → Bool) (n : Nat) : List Int := ((List.range n).filter P).map fun i : Nat => (i : Int) + 1
theorem ids_succ (P : Nat → Bool) (n : Nat) : ids P (n + 1) = ids P n ++ (if P n = true then [(n : Int) + 1] else []) := by
  unfold ids
  rw [List.range_succ, List.filter_append, List.map_append]
  congr 1
  by_cases h : P n = true
  · rw [if_pos h, List.filter_cons_of_pos h]; rfl
  · rw [if_neg h, List.filter_cons_of_neg h]; rfl
theorem ids_len (P : Nat → Bool) (n : Nat) : (ids P n).length ≤ n := by
  unfold ids
  rw [List.length_map]
  have := List.length_filter_le P (List.range n)
  rwa [List.length_range] at this
theorem ids_congr {P Q : Nat → Bool} {n : Nat} (h : ∀ i, i < n → P i = Q i) : ids P n = ids Q n := by
  unfold ids
  rw [List.filter_congr fun i hi => h i (List.mem_range.1 hi)]
theorem ids_mem {P : Nat → Bool} {n : Nat} {x : Int} : x ∈ ids P n ↔ ∃ i, i < n ∧ P i = true ∧ x = (i : Int) + 1 := by
  unfold ids
  simp only [List.mem_map, List.mem_filter, List.mem_range]
  exact ⟨fun ⟨i, ⟨h1, h2⟩, e⟩ => ⟨i, h1, h2, e.symm⟩, fun ⟨i, h1, h2, e⟩ => ⟨i, ⟨h1, h2⟩, e.symm⟩⟩
def mkP (g : G) (a : Int) (i : Nat) : Bool := (mk g a).getD i false
def ancL (g : G) (a : Int) : List Int := ids (mkP g a) g.length
theorem in_ev {g : G} (hg : Fit g) (a : Int) : Ev (fun k => dag_in.f k g a) (decide (1 ≤ a) && (decide (a ≤ (g.length : Int)) && decide (checkN g = 0))) := by
  unfold dag_in.f
  by_cases h1 : a ≥ 1
  · refine Ev.ite_pos h1 ?_
    rw [decide_eq_true h1, Bool.true_and]
    by_cases h2 : a ≤ (g.length : Int)
    · refine Ev.ite_pos h2 (Ev.bind (check_ev hg) (Ev.cast (Ev.now _) ?_))
      rw [decide_eq_true h2, Bool.true_and]
      rfl
    · refine Ev.ite_neg h2 (Ev.cast (Ev.now _) ?_)
      rw [decide_eq_false h2, Bool.false_and]
  · refine Ev.ite_neg h1 (Ev.cast (Ev.now _) ?_)
    rw [decide_eq_false (show ¬ 1 ≤ a by omega), Bool.false_and]
/-- In a graph that is right, and has it. -/
def In (g : G) (a : Int) : Prop := 1 ≤ a ∧ a ≤ (g.length : Int) ∧ checkN g = 0
instance (g : G) (a : Int) : Decidable (In g a) := inferInstanceAs (Decidable (_ ∧ _ ∧ _))
theorem in_t {g : G} (hg : Fit g) {a : Int} (h : In g a) : Ev (fun k => dag_in.f k g a) true := Ev.cast (in_ev hg a) (by rw [decide_eq_true h.1, decide_eq_true h.2.1, decide_eq_true h.2.2]; rfl)
theorem in_n {g : G} (hg : Fit g) {a : Int} (h : ¬ In g a) : Ev (fun k => dag_in.f k g a) false := Ev.cast (in_ev hg a) (by
  rw [Bool.eq_false_iff]
  intro z
  simp only [Bool.and_eq_true, decide_eq_true_iff] at z
  exact h z)
theorem anc_l {o : List Bool} (ho : o.length ≤ 1010) (d : Nat) : ∀ (i : Nat), i + d = o.length → Ev (fun k => dag_Ancestors.l0 k (ids (fun j => o.getD j false) i) o (o.length : Int) (i : Int)) (ids (fun j => o.getD j false) o.length) := by
  induction d with
  | zero =>
    intro i h
    refine Ev.step (fun k => by rw [dag_Ancestors.l0]) (Ev.ite_neg (by omega) (Ev.cast (Ev.now _) ?_))
    rw [show i = o.length by omega]
  | succ d ih =>
    intro i h
    have hi := ids_len (fun j => o.getD j false) i
    refine Ev.step (fun k => by rw [dag_Ancestors.l0]) (Ev.ite_pos (by omega) (Ev.ite_pos (by omega) (Ev.ite_pos (by omega) ?_)))
    have hn := ih (i + 1) (by omega)
    rw [ids_succ] at hn
    rw [show rdOf false o (i : Int) = o.getD i false by unfold rdOf; rw [Int.toNat_natCast], w1 (by omega)]
    by_cases q : o.getD i false = true
    · rw [if_pos q] at hn
      exact Ev.ite_pos q (Ev.ite_pos (by omega) hn)
    · rw [if_neg q, List.append_nil] at hn
      exact Ev.ite_neg q hn
theorem anc_ev {g : G} (hg : Fit g) (a : Int) : Ev (fun k => dag_Ancestors.f k g a) (if In g a then ancL g a else []) := by
  unfold dag_Ancestors.f
  by_cases h : In g a
  · rw [if_pos h]
    refine Ev.bind (in_t hg h) (Ev.ite_pos rfl ?_)
    obtain ⟨hl, hok⟩ := check0 h.2.2
    refine Ev.bind (Ev.pure fun _ => marks_f hok hl h.1 h.2.1) ?_
    have : Ev (fun k => dag_Ancestors.l0 k [] (mk g a) ((mk g a).length : Int) 0) (ids (fun j => (mk g a).getD j false) (mk g a).length) := anc_l (o := mk g a) (by rw [mk_len]; omega) (mk g a).length 0 (by omega)
    rw [show ids (fun j => (mk g a).getD j false) (mk g a).length = ancL g a by rw [mk_len]; rfl] at this
    exact this
  · rw [if_neg h]
    exact Ev.bind (in_n hg h) (Ev.ite_neg (by decide) (Ev.now _))
/-- The greatest of both. -/
def bst (P Q : Nat → Bool) : Nat → Int
  | 0 => 0
  | m + 1 => if P m && Q m then (m : Int) + 1 else bst P Q m
theorem bst_succ (P Q : Nat → Bool) (m : Nat) : bst P Q (m + 1) = if (P m && Q m) = true then (m : Int) + 1 else bst P Q m := rfl
theorem bst_nonneg (P Q : Nat → Bool) : ∀ m, 0 ≤ bst P Q m ∧ bst P Q m ≤ (m : Int)
  | 0 => ⟨Int.le_refl _, Int.le_refl _⟩
  | m + 1 => by
    have := bst_nonneg P Q m
    unfold bst
    split <;> omega
theorem base_l {o p : List Bool} (ho : o.length ≤ 1010) (hp : p.length = o.length) : ∀ m : Nat, m ≤ o.length → Ev (fun k => dag_Base.l0 k o p ((m : Int) - 1)) (bst (fun j => o.getD j false) (fun j => p.getD j false) m, decide (0 < bst (fun j => o.getD j false) (fun j => p.getD j false) m))
  | 0, _ => by
    refine Ev.step (fun k => by rw [dag_Base.l0]) ?_
    exact Ev.ite_neg (by decide) (Ev.now _)
  | m + 1, h => by
    have ih := base_l ho hp m (by omega)
    have e : ((m + 1 : Nat) : Int) - 1 = (m : Int) := by omega
    refine Ev.step (fun k => by rw [dag_Base.l0]) ?_
    rw [e]
    refine Ev.ite_pos (by omega) (Ev.ite_pos (by omega) (Ev.ite_pos (by omega) ?_))
    rw [show rdOf false o (m : Int) = o.getD m false by unfold rdOf; rw [Int.toNat_natCast], show rdOf false p (m : Int) = p.getD m false by unfold rdOf; rw [Int.toNat_natCast], w1 (by omega), w64 (x := (m : Int) - 1) (by omega) (by omega)]
    unfold bst
    by_cases q : o.getD m false = true
    · refine Ev.ite_pos q (Ev.ite_pos (by omega) ?_)
      by_cases q' : p.getD m false = true
      · refine Ev.ite_pos q' (Ev.cast (Ev.now _) ?_)
        rw [if_pos (by rw [q, q']; rfl), decide_eq_true (by omega)]; rfl
      · rw [if_neg (by rw [Bool.eq_false_iff.2 q', Bool.and_false]; decide)]
        exact Ev.ite_neg q' ih
    · rw [if_neg (by rw [Bool.eq_false_iff.2 q, Bool.false_and]; decide)]
      exact Ev.ite_neg q ih
def baseN (g : G) (a b : Int) : Int := bst (mkP g a) (mkP g b) g.length
theorem base_ev {g : G} (hg : Fit g) (a b : Int) : Ev (fun k => dag_Base.f k g a b) (if In g a ∧ In g b then (baseN g a b, decide (0 < baseN g a b)) else (0, false)) := by
  unfold dag_Base.f
  have no : Ev (fun k => dag_Base.j0 k g a b true) (0, false) := Ev.step (fun k => by rw [dag_Base.j0]) (Ev.ite_pos rfl (Ev.now _))
  by_cases ha : In g a
  · refine Ev.bind (in_t hg ha) (Ev.ite_pos rfl ?_)
    by_cases hb : In g b
    · rw [if_pos ⟨ha, hb⟩]
      obtain ⟨hl, hok⟩ := check0 ha.2.2
      refine Ev.bind (in_t hg hb) (Ev.step (fun k => by rw [dag_Base.j0]) (Ev.ite_neg (by decide) ?_))
      refine Ev.bind (Ev.pure fun _ => marks_f hok hl ha.1 ha.2.1) (Ev.bind (Ev.pure fun _ => marks_f hok hl hb.1 hb.2.1) ?_)
      rw [w64 (by omega) (by omega)]
      have := base_l (o := mk g a) (p := mk g b) (by rw [mk_len]; omega) (by rw [mk_len, mk_len]) g.length (by rw [mk_len]; exact Nat.le_refl _)
      exact this
    · rw [if_neg (fun z => hb z.2)]
      exact Ev.bind (in_n hg hb) no
  · rw [if_neg (fun z => ha z.1)]
    exact Ev.bind (in_n hg ha) (Ev.ite_neg (by decide) no)
/-! #### what the reference reaches -/
end Go.Proofs.YtgopimjfoppkmaaDoor.D
