/- Ancestors and bases, plainly: what the program marks is what the reference reaches. -/
import Derived.Test.YtgopimjfoppkmaaDoorDPureDag
import Derived.Test.YtgopimjfoppkmaaDoorD14
import Derived.Test.YtgopimjfoppkmaaDoorD15
import Derived.Test.YtgopimjfoppkmaaDoorD8
import Derived.Test.YtgopimjfoppkmaaDoorD9
namespace Go.Proofs.YtgopimjfoppkmaaDoor.D
open Go.RowKit Go.Proofs.YtgopimjfoppkmaaDoorW.PrintWords Go.Proofs.YtgopimjfoppkmaaDoorW.PrintLast

/-! #### a right graph's parents -/
/-- The parents of the revision of number n. -/
def pars (g : G) (n : Int) : List Int := (rd_T43 g (n - 1)).f3
theorem pars_at {g : G} {i : Nat} (hi : i < g.length) : pars g ((i : Int) + 1) = (g[i]).f3 := by
  unfold pars
  rw [show (i : Int) + 1 - 1 = (i : Int) by omega, rdg hi]
theorem par_ok {g : G} (hok : okFrom g 0 = true) {i : Nat} (hi : i < g.length) {p : Int} (hp : p ∈ (g[i]).f3) : 1 ≤ p ∧ p ≤ (i : Int) ∧ (rd_T43 g (p - 1)).f1.toList = (g[i]).f1.toList := by
  have h := ok_all hok hi
  unfold rightB at h
  simp only [Bool.and_eq_true] at h
  obtain ⟨_, _, _, hps⟩ := h
  obtain ⟨j, hj, rfl⟩ := List.mem_iff_getElem.1 hp
  unfold parsB at hps
  have h1 := List.all_eq_true.1 hps j (by rw [List.drop_zero, List.mem_range]; exact hj)
  unfold parB at h1
  rw [rd_get hj] at h1
  simp only [Bool.and_eq_true, decide_eq_true_iff] at h1
  obtain ⟨h2, h3, h4, _⟩ := h1
  rw [List.length_take] at h3
  refine ⟨h2, by omega, ?_⟩
  obtain ⟨q, hq⟩ := Int.eq_ofNat_of_zero_le (show 0 ≤ (g[i]).f3[j] - 1 by omega)
  have hqi : q < i := by omega
  have e : rd_T43 (g.take i) ((g[i]).f3[j] - 1) = rd_T43 g ((g[i]).f3[j] - 1) := by
    rw [hq, show ((q : Nat) : Int) = (q : Int) from rfl, rdg (l := g.take i) (by rw [List.length_take]; omega), rdg (l := g) (by omega), List.getElem_take]
  rw [e] at h4
  exact beq_iff_eq.1 h4
/-- A revision and its ancestors. -/
inductive Anc (g : G) (a : Int) : Int → Prop
  | self : Anc g a a
  | step {n p : Int} : Anc g a n → 1 ≤ n → n ≤ (g.length : Int) → p ∈ pars g n → Anc g a p
theorem Anc.bound {g : G} (hok : okFrom g 0 = true) {a n : Int} (h : Anc g a n) (h1 : 1 ≤ a) : 1 ≤ n ∧ n ≤ a := by
  induction h with
  | self => exact ⟨h1, Int.le_refl _⟩
  | step _ hn hl hp ih =>
    rename_i n p _
    obtain ⟨i, hi⟩ := Int.eq_ofNat_of_zero_le (show 0 ≤ n - 1 by omega)
    obtain rfl : n = (i : Int) + 1 := by omega
    rw [pars_at (by omega)] at hp
    have := par_ok hok (by omega) hp
    omega
/-! #### what the program marks -/
theorem setAll_at (ps : List Int) : ∀ (o : List Bool) (i : Nat), i < o.length → (setAll o ps).getD i false = (o.getD i false || ps.any fun p => decide ((p - 1).toNat = i)) := by
  induction ps with
  | nil => intro o i h; rw [List.any_nil, Bool.or_false]; rfl
  | cons p ps ih =>
    intro o i h
    show (setAll (o.set (p - 1).toNat true) ps).getD i false = _
    rw [ih _ _ (by rw [List.length_set]; exact h), List.any_cons, ← Bool.or_assoc]
    congr 1
    rw [List.getD_eq_getElem?_getD, List.getElem?_set]
    by_cases e : (p - 1).toNat = i
    · rw [if_pos e, decide_eq_true e, if_pos (by omega), Bool.or_true]; rfl
    · rw [if_neg e, decide_eq_false e, Bool.or_false, List.getD_eq_getElem?_getD]
/-- What is so when the revisions from m on have been looked at. -/
structure Mk (g : G) (a : Int) (m : Nat) (o : List Bool) : Prop where
  len : o.length = g.length
  sound : ∀ i, o.getD i false = true → Anc g a ((i : Int) + 1)
  self : o.getD (a - 1).toNat false = true
  closed : ∀ j, m ≤ j → o.getD j false = true → ∀ p ∈ pars g ((j : Int) + 1), o.getD (p - 1).toNat false = true
theorem getD_len {o : List Bool} {i : Nat} (h : o.getD i false = true) : i < o.length := by
  rcases Nat.lt_or_ge i o.length with z | z
  · exact z
  · rw [List.getD_eq_getElem?_getD, List.getElem?_eq_none z] at h; cases h
theorem mk_start {g : G} {a : Int} (h1 : 1 ≤ a) (h2 : a ≤ (g.length : Int)) : Mk g a g.length (setAll (List.replicate g.length false) [a]) where
  len := by rw [setAll_len, List.length_replicate]
  sound := fun i h => by
    have hl := getD_len h
    rw [setAll_len, List.length_replicate] at hl
    rw [setAll_at _ _ _ (by rw [List.length_replicate]; exact hl), List.getD_eq_getElem?_getD, List.getElem?_replicate, if_pos hl] at h
    simp only [Option.getD_some, Bool.false_or, List.any_cons, List.any_nil, Bool.or_false, decide_eq_true_iff] at h
    rw [show (i : Int) + 1 = a by omega]
    exact Anc.self
  self := by
    rw [setAll_at _ _ _ (by rw [List.length_replicate]; omega)]
    simp
  closed := fun j hj h => by
    have hl := getD_len h
    rw [setAll_len, List.length_replicate] at hl
    omega
theorem mk_step {g : G} (hok : okFrom g 0 = true) {a : Int} {q : Nat} (hq : q < g.length) {o : List Bool} (h : Mk g a (q + 1) o) : Mk g a q (markF g o ⟨q, hq⟩) := by
  have hpq : (rd_T43 g ((q : Nat) : Int)).f3 = (g[q]).f3 := by rw [rdg hq]
  unfold markF
  show Mk g a q (if o.getD q false = true then setAll o (rd_T43 g ((q : Nat) : Int)).f3 else o)
  rw [hpq]
  by_cases b : o.getD q false = true
  · rw [if_pos b]
    have at_ : ∀ i, i < o.length → (setAll o (g[q]).f3).getD i false = (o.getD i false || (g[q]).f3.any fun p => decide ((p - 1).toNat = i)) := setAll_at _ _
    have up : ∀ i, o.getD i false = true → (setAll o (g[q]).f3).getD i false = true := fun i hi => by rw [at_ i (getD_len hi), hi, Bool.true_or]
    have par : ∀ p ∈ (g[q]).f3, (setAll o (g[q]).f3).getD (p - 1).toNat false = true := fun p hp => by
      have := par_ok hok hq hp
      rw [at_ _ (by rw [h.len]; omega), Bool.or_eq_true]
      exact Or.inr (List.any_eq_true.2 ⟨p, hp, decide_eq_true rfl⟩)
    refine ⟨by rw [setAll_len, h.len], fun i hi => ?_, up _ h.self, fun j hj hjo p hp => ?_⟩
    · have hl := getD_len hi
      rw [setAll_len] at hl
      rw [at_ i hl, Bool.or_eq_true] at hi
      rcases hi with hi | hi
      · exact h.sound i hi
      · obtain ⟨p, hp, e⟩ := List.any_eq_true.1 hi
        have e := of_decide_eq_true e
        have hb := par_ok hok hq hp
        rw [show (i : Int) + 1 = p by omega]
        exact Anc.step (h.sound q b) (by omega) (by omega) (by rw [pars_at hq]; exact hp)
    · by_cases e : j = q
      · subst e
        rw [pars_at hq] at hp
        exact par p hp
      · have hl := getD_len hjo
        rw [setAll_len] at hl
        rw [at_ j hl, Bool.or_eq_true] at hjo
        rcases hjo with hjo | hjo
        · exact up _ (h.closed j (by omega) hjo p hp)
        · obtain ⟨p', hp', e'⟩ := List.any_eq_true.1 hjo
          have e' := of_decide_eq_true e'
          have := par_ok hok hq hp'
          omega
  · rw [if_neg b]
    refine ⟨h.len, h.sound, h.self, fun j hj hjo p hp => ?_⟩
    by_cases e : j = q
    · subst e; exact absurd hjo b
    · exact h.closed j (by omega) hjo p hp
theorem mk_all {g : G} (hok : okFrom g 0 = true) {a : Int} (h1 : 1 ≤ a) (h2 : a ≤ (g.length : Int)) : ∀ d m, m + d = g.length → Mk g a m (marksF g [a] (dn g.length (g.length - m)))
  | 0, m, h => by
    rw [show g.length - m = 0 by omega, dn_zero]
    have := mk_start h1 h2
    rw [show m = g.length by omega]
    exact this
  | d + 1, m, h => by
    rw [dn_succ (show m < g.length by omega), marksF_snoc]
    exact mk_step hok (by omega) (mk_all hok h1 h2 d (m + 1) (by omega))
/-- Which are marked. -/
def mk (g : G) (a : Int) : List Bool := marksF g [a] (dn g.length g.length)
theorem mk_iff {g : G} (hok : okFrom g 0 = true) {a : Int} (h1 : 1 ≤ a) (h2 : a ≤ (g.length : Int)) (i : Nat) : (mk g a).getD i false = true ↔ Anc g a ((i : Int) + 1) := by
  have h := mk_all hok h1 h2 g.length 0 (by omega)
  rw [Nat.sub_zero] at h
  refine ⟨fun z => h.sound i z, fun z => ?_⟩
  have gen : ∀ n, Anc g a n → (mk g a).getD (n - 1).toNat false = true := fun n hn => by
    induction hn with
    | self => exact h.self
    | step hn' hn1 hnl hp ih =>
      rename_i n p
      refine h.closed (n - 1).toNat (Nat.zero_le _) ih p ?_
      rw [show (((n - 1).toNat : Nat) : Int) + 1 = n by omega]
      exact hp
  have := gen _ z
  rw [show ((i : Int) + 1 - 1).toNat = i by omega] at this
  exact this
theorem okM_of {g : G} (hok : okFrom g 0 = true) (hl : g.length ≤ 1000) {a : Int} (h1 : 1 ≤ a) (h2 : a ≤ (g.length : Int)) : okM g [a] = true := by
  unfold okM
  rw [decide_eq_true (by omega : 0 < g.length), decide_eq_true hl, Bool.true_and, Bool.true_and, Bool.and_eq_true]
  refine ⟨by unfold inAll; simp; omega, List.all_eq_true.2 fun r hr => ?_⟩
  obtain ⟨i, hi, rfl⟩ := List.mem_iff_getElem.1 hr
  unfold inAll
  refine List.all_eq_true.2 fun p hp => ?_
  have := par_ok hok hi hp
  simp only [Bool.and_eq_true, decide_eq_true_iff]
  omega
theorem marks_f {g : G} (hok : okFrom g 0 = true) (hl : g.length ≤ 1000) {a : Int} (h1 : 1 ≤ a) (h2 : a ≤ (g.length : Int)) : dag_marks.f g [a] = some (mk g a) := by
  unfold dag_marks.f
  rw [if_pos (okM_of hok hl h1 h2)]; rfl
theorem mk_len (g : G) (a : Int) : (mk g a).length = g.length := marksF_len _ _ _
/-- The numbers of the places that are marked. -/
def ids (P : Nat → Bool) (n : Nat) : List Int := ((List.range n).filter P).map fun i : Nat => (i : Int) + 1
theorem ids_succ (P : Nat → Bool) (n : Nat) : ids P (n + 1) = ids P n ++ (if P n = true then [(n : Int) + 1] else []) := by
  unfold ids
  rw [List.range_succ, List.filter_append, List.map_append]
  congr 1
  by_cases h : P n = true
  · rw [if_pos h, List.filter_cons_of_pos h]; rfl
  · rw [if_neg h, List.filter_cons_of_neg h]; rfl
theorem ids_len (P : Nat → Bool) (n : Nat) : (ids P n).length ≤ n := by
  unfold ids
  rw [List.length_map]
  have := List.length_filter_le P (List.range n)
  rwa [List.length_range] at this
theorem ids_congr {P Q : Nat → Bool} {n : Nat} (h : ∀ i, i < n → P i = Q i) : ids P n = ids Q n := by
  unfold ids
  rw [List.filter_congr fun i hi => h i (List.mem_range.1 hi)]
theorem ids_mem {P : Nat → Bool} {n : Nat} {x : Int} : x ∈ ids P n ↔ ∃ i, i < n ∧ P i = true ∧ x = (i : Int) + 1 := by
  unfold ids
  simp only [List.mem_map, List.mem_filter, List.mem_range]
  exact ⟨fun ⟨i, ⟨h1, h2⟩, e⟩ => ⟨i, h1, h2, e.symm⟩, fun ⟨i, h1, h2, e⟩ => ⟨i, ⟨h1, h2⟩, e.symm⟩⟩
def mkP (g : G) (a : Int) (i : Nat) : Bool := (mk g a).getD i false
def ancL (g : G) (a : Int) : List Int := ids (mkP g a) g.length
theorem in_ev {g : G} (hg : Fit g) (a : Int) : Ev (fun k => dag_in.f k g a) (decide (1 ≤ a) && (decide (a ≤ (g.length : Int)) && decide (checkN g = 0))) := by
  unfold dag_in.f
  by_cases h1 : a ≥ 1
  · refine Ev.ite_pos h1 ?_
    rw [decide_eq_true h1, Bool.true_and]
    by_cases h2 : a ≤ (g.length : Int)
    · refine Ev.ite_pos h2 (Ev.bind (check_ev hg) (Ev.cast (Ev.now _) ?_))
      rw [decide_eq_true h2, Bool.true_and]
      rfl
    · refine Ev.ite_neg h2 (Ev.cast (Ev.now _) ?_)
      rw [decide_eq_false h2, Bool.false_and]
  · refine Ev.ite_neg h1 (Ev.cast (Ev.now _) ?_)
    rw [decide_eq_false (show ¬ 1 ≤ a by omega), Bool.false_and]
/-- In a graph that is right, and has it. -/
def In (g : G) (a : Int) : Prop := 1 ≤ a ∧ a ≤ (g.length : Int) ∧ checkN g = 0
instance (g : G) (a : Int) : Decidable (In g a) := inferInstanceAs (Decidable (_ ∧ _ ∧ _))
theorem in_t {g : G} (hg : Fit g) {a : Int} (h : In g a) : Ev (fun k => dag_in.f k g a) true := Ev.cast (in_ev hg a) (by rw [decide_eq_true h.1, decide_eq_true h.2.1, decide_eq_true h.2.2]; rfl)
theorem in_n {g : G} (hg : Fit g) {a : Int} (h : ¬ In g a) : Ev (fun k => dag_in.f k g a) false := Ev.cast (in_ev hg a) (by
  rw [Bool.eq_false_iff]
  intro z
  simp only [Bool.and_eq_true, decide_eq_true_iff] at z
  exact h z)
theorem anc_l {o : List Bool} (ho : o.length ≤ 1010) (d : Nat) : ∀ (i : Nat), i + d = o.length → Ev (fun k => dag_Ancestors.l0 k (ids (fun j => o.getD j false) i) o (o.length : Int) (i : Int)) (ids (fun j => o.getD j false) o.length) := by
  induction d with
  | zero =>
    intro i h
    refine Ev.step (fun k => by rw [dag_Ancestors.l0]) (Ev.ite_neg (by omega) (Ev.cast (Ev.now _) ?_))
    rw [show i = o.length by omega]
  | succ d ih =>
    intro i h
    have hi := ids_len (fun j => o.getD j false) i
    refine Ev.step (fun k => by rw [dag_Ancestors.l0]) (Ev.ite_pos (by omega) (Ev.ite_pos (by omega) (Ev.ite_pos (by omega) ?_)))
    have hn := ih (i + 1) (by omega)
    rw [ids_succ] at hn
    rw [show rdOf false o (i : Int) = o.getD i false by unfold rdOf; rw [Int.toNat_natCast], w1 (by omega)]
    by_cases q : o.getD i false = true
    · rw [if_pos q] at hn
      exact Ev.ite_pos q (Ev.ite_pos (by omega) hn)
    · rw [if_neg q, List.append_nil] at hn
      exact Ev.ite_neg q hn
theorem anc_ev {g : G} (hg : Fit g) (a : Int) : Ev (fun k => dag_Ancestors.f k g a) (if In g a then ancL g a else []) := by
  unfold dag_Ancestors.f
  by_cases h : In g a
  · rw [if_pos h]
    refine Ev.bind (in_t hg h) (Ev.ite_pos rfl ?_)
    obtain ⟨hl, hok⟩ := check0 h.2.2
    refine Ev.bind (Ev.pure fun _ => marks_f hok hl h.1 h.2.1) ?_
    have : Ev (fun k => dag_Ancestors.l0 k [] (mk g a) ((mk g a).length : Int) 0) (ids (fun j => (mk g a).getD j false) (mk g a).length) := anc_l (o := mk g a) (by rw [mk_len]; omega) (mk g a).length 0 (by omega)
    rw [show ids (fun j => (mk g a).getD j false) (mk g a).length = ancL g a by rw [mk_len]; rfl] at this
    exact this
  · rw [if_neg h]
    exact Ev.bind (in_n hg h) (Ev.ite_neg (by decide) (Ev.now _))
/-- The greatest of both. -/
def bst (P Q : Nat → Bool) : Nat → Int
  | 0 => 0
  | m + 1 => if P m && Q m then (m : Int) + 1 else bst P Q m
theorem bst_succ (P Q : Nat → Bool) (m : Nat) : bst P Q (m + 1) = if (P m && Q m) = true then (m : Int) + 1 else bst P Q m := rfl
theorem bst_nonneg (P Q : Nat → Bool) : ∀ m, 0 ≤ bst P Q m ∧ bst P Q m ≤ (m : Int)
  | 0 => ⟨Int.le_refl _, Int.le_refl _⟩
  | m + 1 => by
    have := bst_nonneg P Q m
    unfold bst
    split <;> omega
theorem base_l {o p : List Bool} (ho : o.length ≤ 1010) (hp : p.length = o.length) : ∀ m : Nat, m ≤ o.length → Ev (fun k => dag_Base.l0 k o p ((m : Int) - 1)) (bst (fun j => o.getD j false) (fun j => p.getD j false) m, decide (0 < bst (fun j => o.getD j false) (fun j => p.getD j false) m))
  | 0, _ => by
    refine Ev.step (fun k => by rw [dag_Base.l0]) ?_
    exact Ev.ite_neg (by decide) (Ev.now _)
  | m + 1, h => by
    have ih := base_l ho hp m (by omega)
    have e : ((m + 1 : Nat) : Int) - 1 = (m : Int) := by omega
    refine Ev.step (fun k => by rw [dag_Base.l0]) ?_
    rw [e]
    refine Ev.ite_pos (by omega) (Ev.ite_pos (by omega) (Ev.ite_pos (by omega) ?_))
    rw [show rdOf false o (m : Int) = o.getD m false by unfold rdOf; rw [Int.toNat_natCast], show rdOf false p (m : Int) = p.getD m false by unfold rdOf; rw [Int.toNat_natCast], w1 (by omega), w64 (x := (m : Int) - 1) (by omega) (by omega)]
    unfold bst
    by_cases q : o.getD m false = true
    · refine Ev.ite_pos q (Ev.ite_pos (by omega) ?_)
      by_cases q' : p.getD m false = true
      · refine Ev.ite_pos q' (Ev.cast (Ev.now _) ?_)
        rw [if_pos (by rw [q, q']; rfl), decide_eq_true (by omega)]; rfl
      · rw [if_neg (by rw [Bool.eq_false_iff.2 q', Bool.and_false]; decide)]
        exact Ev.ite_neg q' ih
    · rw [if_neg (by rw [Bool.eq_false_iff.2 q, Bool.false_and]; decide)]
      exact Ev.ite_neg q ih
def baseN (g : G) (a b : Int) : Int := bst (mkP g a) (mkP g b) g.length
theorem base_ev {g : G} (hg : Fit g) (a b : Int) : Ev (fun k => dag_Base.f k g a b) (if In g a ∧ In g b then (baseN g a b, decide (0 < baseN g a b)) else (0, false)) := by
  unfold dag_Base.f
  have no : Ev (fun k => dag_Base.j0 k g a b true) (0, false) := Ev.step (fun k => by rw [dag_Base.j0]) (Ev.ite_pos rfl (Ev.now _))
  by_cases ha : In g a
  · refine Ev.bind (in_t hg ha) (Ev.ite_pos rfl ?_)
    by_cases hb : In g b
    · rw [if_pos ⟨ha, hb⟩]
      obtain ⟨hl, hok⟩ := check0 ha.2.2
      refine Ev.bind (in_t hg hb) (Ev.step (fun k => by rw [dag_Base.j0]) (Ev.ite_neg (by decide) ?_))
      refine Ev.bind (Ev.pure fun _ => marks_f hok hl ha.1 ha.2.1) (Ev.bind (Ev.pure fun _ => marks_f hok hl hb.1 hb.2.1) ?_)
      rw [w64 (by omega) (by omega)]
      have := base_l (o := mk g a) (p := mk g b) (by rw [mk_len]; omega) (by rw [mk_len, mk_len]) g.length (by rw [mk_len]; exact Nat.le_refl _)
      exact this
    · rw [if_neg (fun z => hb z.2)]
      exact Ev.bind (in_n hg hb) no
  · rw [if_neg (fun z => ha z.1)]
    exact Ev.bind (in_n hg ha) (Ev.ite_neg (by decide) no)
/-! #### what the reference reaches -/
theorem nodup_len : ∀ (n : Nat) (l : List Int), l.Nodup → (∀ x ∈ l, 1 ≤ x ∧ x ≤ (n : Int)) → l.length ≤ n
  | 0, l, _, h => by
    cases l with
    | nil => exact Nat.le_refl _
    | cons x l => have := h x (List.mem_cons_self ..); omega
  | n + 1, l, hd, h => by
    by_cases hm : ((n + 1 : Nat) : Int) ∈ l
    · have hl := List.length_erase_of_mem hm
      have ih := nodup_len n (l.erase ((n + 1 : Nat) : Int)) (hd.erase _) fun x hx => by
        rw [hd.mem_erase_iff] at hx
        have := h x hx.2
        have hne := hx.1
        omega
      have hpos : 0 < l.length := List.length_pos_of_mem hm
      omega
    · have := nodup_len n l hd fun x hx => by
        have h1 := h x hx
        have hne : x ≠ ((n + 1 : Nat) : Int) := fun e => hm (e ▸ hx)
        omega
      omega
/-- What is so of the list that the reference goes through. -/
structure Clo (g : G) (a : Int) (l : List Int) : Prop where
  nodup : l.Nodup
  anc : ∀ x ∈ l, Anc g a x
  self : a ∈ l
theorem clo_range {g : G} (hok : okFrom g 0 = true) {a : Int} (h1 : 1 ≤ a) (h2 : a ≤ (g.length : Int)) {l : List Int} (h : Clo g a l) : (∀ x ∈ l, 1 ≤ x ∧ x ≤ (g.length : Int)) ∧ l.length ≤ g.length := by
  have hr : ∀ x ∈ l, 1 ≤ x ∧ x ≤ (g.length : Int) := fun x hx => by
    have := (h.anc x hx).bound hok h1
    omega
  exact ⟨hr, nodup_len _ _ h.nodup hr⟩
theorem clo_add {g : G} {a : Int} {l : List Int} (h : Clo g a l) {n p : Int} (hn : n ∈ l) (h1 : 1 ≤ n) (h2 : n ≤ (g.length : Int)) (hp : p ∈ pars g n) (hnp : ¬ p ∈ l) : Clo g a (l ++ [p]) where
  nodup := List.nodup_append.2 ⟨h.nodup, by simp, fun x hx y hy => by
    simp only [List.mem_singleton] at hy
    subst hy
    exact fun e => hnp (e ▸ hx)⟩
  anc := fun x hx => by
    rcases List.mem_append.1 hx with hx | hx
    · exact h.anc x hx
    · simp only [List.mem_singleton] at hx
      subst hx
      exact Anc.step (h.anc n hn) h1 h2 hp
  self := List.mem_append_left _ h.self
/-- The inner loop: a revision's parents are put behind. -/
theorem rclo_l1 {g : G} (hg : Fit g) (hok : okFrom g 0 = true) {a : Int} (h1 : 1 ≤ a) (h2 : a ≤ (g.length : Int)) (i : Nat) (hi : i ≤ 2000) (n : Int) (hn1 : 1 ≤ n) (hn2 : n ≤ (g.length : Int)) (hps : (pars g n).length ≤ 20) (d : Nat) : ∀ (j : Nat) (l : List Int), j + d = (pars g n).length → Clo g a l → n ∈ l →
    ∃ l', l <+: l' ∧ Clo g a l' ∧ (∀ p ∈ (pars g n).drop j, p ∈ l') ∧ ∀ r, Ev (fun k => rectoref31_Ancestors.l0 k (g.map cv) l' ((i + 1 : Nat) : Int)) r → Ev (fun k => rectoref31_Ancestors.l1 k (g.map cv) l (i : Int) (pars g n) ((pars g n).length : Int) (j : Int)) r := by
  have hgl := hg.len
  induction d with
  | zero =>
    intro j l h hc _
    refine ⟨l, List.prefix_rfl, hc, fun p hp => ?_, fun r hr => Ev.step (fun k => by rw [rectoref31_Ancestors.l1]) (Ev.ite_neg (by omega) ?_)⟩
    · rw [List.drop_eq_nil_of_le (by omega)] at hp; cases hp
    · rw [w1 (by omega)]
      exact hr
  | succ d ih =>
    intro j l h hc hnl
    have hj : j < (pars g n).length := by omega
    obtain ⟨hr, hl⟩ := clo_range hok h1 h2 hc
    by_cases q : (pars g n)[j] ∈ l
    · obtain ⟨l', hp, hc', hs, hgo⟩ := ih (j + 1) l (by omega) hc hnl
      refine ⟨l', hp, hc', fun p hpm => ?_, fun r hr' => ?_⟩
      · rw [List.drop_eq_getElem_cons hj] at hpm
        rcases List.mem_cons.1 hpm with rfl | hpm
        · exact hp.subset q
        · exact hs p hpm
      · refine Ev.step (fun k => by rw [rectoref31_Ancestors.l1]) (Ev.ite_pos (by omega) (Ev.ite_pos (by omega) (Ev.ite_pos (by omega) ?_)))
        rw [rd_get hj, w1 (by omega)]
        exact Ev.bind (has_ev (by omega) _) (Ev.ite_pos (List.contains_iff_mem.2 q) (hgo r hr'))
    · obtain ⟨l', hp, hc', hs, hgo⟩ := ih (j + 1) (l ++ [(pars g n)[j]]) (by omega) (clo_add hc hnl hn1 hn2 (List.getElem_mem hj) q) (List.mem_append_left _ hnl)
      refine ⟨l', (List.prefix_append _ _).trans hp, hc', fun p hpm => ?_, fun r hr' => ?_⟩
      · rw [List.drop_eq_getElem_cons hj] at hpm
        rcases List.mem_cons.1 hpm with rfl | hpm
        · exact hp.subset (List.mem_append_right _ (List.mem_singleton.2 rfl))
        · exact hs p hpm
      · refine Ev.step (fun k => by rw [rectoref31_Ancestors.l1]) (Ev.ite_pos (by omega) (Ev.ite_pos (by omega) (Ev.ite_pos (by omega) ?_)))
        rw [rd_get hj, w1 (by omega)]
        exact Ev.bind (has_ev (by omega) _) (Ev.ite_neg (fun z => q (List.contains_iff_mem.1 z)) (Ev.ite_pos (by omega) (hgo r hr')))
theorem rpars {g : G} {n : Int} (h1 : 1 ≤ n) (h2 : n ≤ (g.length : Int)) : (rd_T48 (g.map cv) (n - 1)).f3 = pars g n := by
  obtain ⟨q, hq⟩ := Int.eq_ofNat_of_zero_le (show 0 ≤ n - 1 by omega)
  have hql : q < g.length := by omega
  unfold pars
  rw [hq, show ((q : Nat) : Int) = (q : Int) from rfl, rdr hql, rdg hql]; rfl
theorem pars_len {g : G} (hg : Fit g) {n : Int} (h1 : 1 ≤ n) (h2 : n ≤ (g.length : Int)) : (pars g n).length ≤ 20 := by
  obtain ⟨q, hq⟩ := Int.eq_ofNat_of_zero_le (show 0 ≤ n - 1 by omega)
  have hql : q < g.length := by omega
  have e : n = (q : Int) + 1 := by omega
  rw [e, pars_at hql]
  exact (hg.at hql).1
theorem rclo_l0 {g : G} (hg : Fit g) (hok : okFrom g 0 = true) {a : Int} (h1 : 1 ≤ a) (h2 : a ≤ (g.length : Int)) (d : Nat) : ∀ (i : Nat) (l : List Int), g.length ≤ i + d → i ≤ l.length → Clo g a l → (∀ j (hj : j < l.length), j < i → ∀ p ∈ pars g l[j], p ∈ l) →
    ∃ l', Clo g a l' ∧ (∀ x ∈ l', ∀ p ∈ pars g x, p ∈ l') ∧ ∀ r, Ev (fun k => rectoref31_Ancestors.l2 k (g.map cv) l' [] 1) r → Ev (fun k => rectoref31_Ancestors.l0 k (g.map cv) l (i : Int)) r := by
  have hgl := hg.len
  have hml : (g.map cv).length = g.length := List.length_map ..
  have fin : ∀ (i : Nat) (l : List Int), l.length ≤ i → i ≤ l.length → Clo g a l → (∀ j (hj : j < l.length), j < i → ∀ p ∈ pars g l[j], p ∈ l) →
      ∃ l', Clo g a l' ∧ (∀ x ∈ l', ∀ p ∈ pars g x, p ∈ l') ∧ ∀ r, Ev (fun k => rectoref31_Ancestors.l2 k (g.map cv) l' [] 1) r → Ev (fun k => rectoref31_Ancestors.l0 k (g.map cv) l (i : Int)) r := fun i l hi hi' hc hcl => by
    refine ⟨l, hc, fun x hx => ?_, fun r hr => Ev.step (fun k => by rw [rectoref31_Ancestors.l0]) (Ev.ite_neg (by omega) hr)⟩
    obtain ⟨j, hj, rfl⟩ := List.mem_iff_getElem.1 hx
    exact hcl j hj (by omega)
  induction d with
  | zero =>
    intro i l h hil hc hcl
    obtain ⟨_, hl⟩ := clo_range hok h1 h2 hc
    exact fin i l (by omega) hil hc hcl
  | succ d ih =>
    intro i l h hil hc hcl
    obtain ⟨hr, hl⟩ := clo_range hok h1 h2 hc
    by_cases q : i < l.length
    · have hb := hr l[i] (List.getElem_mem q)
      have hpl := pars_len hg hb.1 hb.2
      obtain ⟨l', hp, hc', hs, hgo⟩ := rclo_l1 hg hok h1 h2 i (by omega) l[i] hb.1 hb.2 hpl (pars g l[i]).length 0 l (by omega) hc (List.getElem_mem q)
      have hpl' := hp.length_le
      obtain ⟨l2, hc2, hcl2, hgo2⟩ := ih (i + 1) l' (by omega) (by omega) hc' (fun j hj hji p hpm => by
        by_cases e : j < i
        · have hjl : j < l.length := by omega
          rw [← hp.getElem hjl] at hpm
          exact hp.subset (hcl j hjl e p hpm)
        · obtain rfl : j = i := by omega
          rw [← hp.getElem q] at hpm
          exact hs p (by rw [List.drop_zero]; exact hpm))
      refine ⟨l2, hc2, hcl2, fun r hr' => ?_⟩
      refine Ev.step (fun k => by rw [rectoref31_Ancestors.l0]) (Ev.ite_pos (by omega) (Ev.ite_pos (by omega) ?_))
      rw [rd_get q, w64 (x := l[i] - 1) (by omega) (by omega)]
      refine Ev.ite_pos (by omega) (Ev.ite_pos (by rw [hml]; omega) ?_)
      rw [rpars hb.1 hb.2]
      exact hgo r (hgo2 r hr')
    · exact fin i l (by omega) hil hc hcl
theorem rclo_l2 {g : G} (hg : g.length ≤ 1010) {l : List Int} (hl : l.length ≤ 100000) (d : Nat) : ∀ (i : Nat), i + d = g.length → Ev (fun k => rectoref31_Ancestors.l2 k (g.map cv) l (ids (fun j => l.contains ((j : Int) + 1)) i) (((i : Nat) : Int) + 1)) (ids (fun j => l.contains ((j : Int) + 1)) g.length) := by
  have hml : (g.map cv).length = g.length := List.length_map ..
  induction d with
  | zero =>
    intro i h
    refine Ev.step (fun k => by rw [rectoref31_Ancestors.l2]) (Ev.ite_neg (by rw [hml]; omega) (Ev.cast (Ev.now _) ?_))
    rw [show i = g.length by omega]
  | succ d ih =>
    intro i h
    have hi := ids_len (fun j => l.contains ((j : Int) + 1)) i
    have hn := ih (i + 1) (by omega)
    rw [ids_succ] at hn
    refine Ev.step (fun k => by rw [rectoref31_Ancestors.l2]) (Ev.ite_pos (by rw [hml]; omega) (Ev.bind (has_ev hl _) ?_))
    rw [show wrap64 ((i : Int) + 1 + 1) = ((i + 1 : Nat) : Int) + 1 by rw [w64 (by omega) (by omega)]; omega]
    by_cases q : l.contains ((i : Int) + 1) = true
    · rw [if_pos q] at hn
      exact Ev.ite_pos q (Ev.ite_pos (by omega) hn)
    · rw [if_neg q, List.append_nil] at hn
      exact Ev.ite_neg q hn
theorem ranc_ev {g : G} (hg : Fit g) {a : Int} (h : In g a) : Ev (fun k => rectoref31_Ancestors.f k (g.map cv) a) (ancL g a) := by
  have hgl := hg.len
  obtain ⟨hl, hok⟩ := check0 h.2.2
  unfold rectoref31_Ancestors.f
  obtain ⟨l, hc, hcl, hgo⟩ := rclo_l0 hg hok h.1 h.2.1 g.length 0 [a] (by omega) (Nat.zero_le _) ⟨by simp, fun x hx => by simp only [List.mem_singleton] at hx; subst hx; exact Anc.self, List.mem_singleton.2 rfl⟩ (fun j _ hj => absurd hj (Nat.not_lt_zero _))
  obtain ⟨hr, hll⟩ := clo_range hok h.1 h.2.1 hc
  refine hgo _ ?_
  have : Ev (fun k => rectoref31_Ancestors.l2 k (g.map cv) l [] 1) (ids (fun j => l.contains ((j : Int) + 1)) g.length) := rclo_l2 (g := g) hgl (l := l) (by omega) g.length 0 (by omega)
  refine Ev.cast this ?_
  unfold ancL
  refine ids_congr fun i hi => ?_
  rw [Bool.eq_iff_iff, List.contains_iff_mem]
  unfold mkP
  rw [mk_iff hok h.1 h.2.1]
  refine ⟨fun z => hc.anc _ z, fun z => ?_⟩
  have gen : ∀ n, Anc g a n → n ∈ l := fun n hn => by
    induction hn with
    | self => exact hc.self
    | step _ _ _ hp ih => exact hcl _ ih _ hp
  exact gen _ z
theorem bst_fold (P Q : Nat → Bool) {y : List Int} (n : Nat) (hy : ∀ i, i < n → y.contains ((i : Int) + 1) = Q i) : ∀ m, m ≤ n → (ids P m).foldl (fun b x => if y.contains x = true then x else b) 0 = bst P Q m
  | 0, _ => rfl
  | m + 1, h => by
    rw [ids_succ, List.foldl_append, bst_fold P Q n hy m (by omega), bst_succ]
    by_cases p : P m = true
    · rw [if_pos p, p, Bool.true_and]
      rw [List.foldl_cons, List.foldl_nil, hy m (by omega)]
    · rw [if_neg p, Bool.eq_false_iff.2 p, Bool.false_and]
      rfl
theorem rbase_l {x y : List Int} (hx : x.length ≤ 100000) (hy : y.length ≤ 100000) (d : Nat) : ∀ (i : Nat) (b : Int), i + d = x.length → Ev (fun k => rectoref31_Base.l0 k y b x (x.length : Int) (i : Int)) ((x.drop i).foldl (fun b n => if y.contains n = true then n else b) b) := by
  induction d with
  | zero =>
    intro i b h
    refine Ev.step (fun k => by rw [rectoref31_Base.l0]) (Ev.ite_neg (by omega) (Ev.cast (Ev.now _) ?_))
    rw [List.drop_eq_nil_of_le (by omega)]; rfl
  | succ d ih =>
    intro i b h
    have hi : i < x.length := by omega
    refine Ev.step (fun k => by rw [rectoref31_Base.l0]) (Ev.ite_pos (by omega) (Ev.ite_pos (by omega) (Ev.ite_pos (by omega) ?_)))
    rw [rd_get hi, w1 (by omega), List.drop_eq_getElem_cons hi, List.foldl_cons]
    refine Ev.bind (has_ev hy _) ?_
    by_cases q : y.contains x[i] = true
    · rw [if_pos q]
      exact Ev.ite_pos q (ih (i + 1) _ (by omega))
    · rw [if_neg q]
      exact Ev.ite_neg q (ih (i + 1) _ (by omega))
theorem rbase_ev {g : G} (hg : Fit g) {a b : Int} (ha : In g a) (hb : In g b) : Ev (fun k => rectoref31_Base.f k (g.map cv) a b) (baseN g a b) := by
  have hgl := hg.len
  unfold rectoref31_Base.f
  have hla := ids_len (mkP g a) g.length
  have hlb := ids_len (mkP g b) g.length
  refine Ev.bind (ranc_ev hg ha) (Ev.bind (ranc_ev hg hb) ?_)
  have h := rbase_l (x := ancL g a) (y := ancL g b) (by unfold ancL; omega) (by unfold ancL; omega) (ancL g a).length 0 0 (by omega)
  rw [List.drop_zero] at h
  refine Ev.cast h ?_
  unfold baseN
  refine bst_fold (mkP g a) (mkP g b) g.length (fun i hi => ?_) g.length (Nat.le_refl _)
  rw [Bool.eq_iff_iff, List.contains_iff_mem]
  unfold ancL
  rw [ids_mem]
  exact ⟨fun ⟨j, _, hj, e⟩ => by obtain rfl : j = i := by omega
                                 exact hj, fun z => ⟨i, hi, z, rfl⟩⟩
end Go.Proofs.YtgopimjfoppkmaaDoor.D
