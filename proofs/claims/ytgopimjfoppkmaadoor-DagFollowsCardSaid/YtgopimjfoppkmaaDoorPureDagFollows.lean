/- DagFollows, plainly: any two revisions of one page have a base; of unlike pages none have; whoever is an ancestor has no greater number. -/
import Derived.Test.YtgopimjfoppkmaaDoorDPureDagAnc
import Derived.Test.YtgopimjfoppkmaaDoorD11
import Derived.Test.YtgopimjfoppkmaaDoorD12
namespace Go.Proofs.YtgopimjfoppkmaaDoor.D
open Go.RowKit Go.Proofs.YtgopimjfoppkmaaDoorW.PrintWords Go.Proofs.YtgopimjfoppkmaaDoorW.PrintLast

theorem lhas_l {a : Int} {l : List Int} (hl : l.length ≤ 100000) (d : Nat) : ∀ i : Nat, i + d = l.length → Ev (fun k => rectolaw31_has.l0 k a l (l.length : Int) (i : Int)) ((l.drop i).contains a) := by
  induction d with
  | zero =>
    intro i h
    refine Ev.step (fun k => by rw [rectolaw31_has.l0]) (Ev.ite_neg (by omega) (Ev.cast (Ev.now _) ?_))
    rw [List.drop_eq_nil_of_le (by omega)]; rfl
  | succ d ih =>
    intro i h
    have hi : i < l.length := by omega
    refine Ev.step (fun k => by rw [rectolaw31_has.l0]) (Ev.ite_pos (by omega) (Ev.ite_pos (by omega) (Ev.ite_pos (by omega) ?_)))
    rw [w1 (by omega), rd_get hi, List.drop_eq_getElem_cons hi, List.contains_cons]
    by_cases e : l[i] = a
    · exact Ev.ite_pos e (Ev.cast (Ev.now _) (by rw [e]; simp))
    · refine Ev.ite_neg e ?_
      rw [beq_eq_false_iff_ne.2 (fun z => e z.symm), Bool.false_or]
      exact ih (i + 1) (by omega)
theorem lhas_ev {l : List Int} (hl : l.length ≤ 100000) (a : Int) : Ev (fun k => rectolaw31_has.f k l a) (l.contains a) := by
  unfold rectolaw31_has.f
  exact lhas_l hl l.length 0 (by omega)
/-! #### pages -/
def page (g : G) (n : Int) : List UInt8 := (rd_T43 g (n - 1)).f1.toList
theorem page_at {g : G} {i : Nat} (hi : i < g.length) : page g ((i : Int) + 1) = (g[i]).f1.toList := by
  unfold page
  rw [show (i : Int) + 1 - 1 = (i : Int) by omega, rdg hi]
theorem Anc.page {g : G} (hok : okFrom g 0 = true) {a n : Int} (h : Anc g a n) : page g n = page g a := by
  induction h with
  | self => rfl
  | step _ hn hl hp ih =>
    rename_i n p _
    obtain ⟨i, hi⟩ := Int.eq_ofNat_of_zero_le (show 0 ≤ n - 1 by omega)
    obtain rfl : n = (i : Int) + 1 := by omega
    rw [pars_at (by omega)] at hp
    rw [← ih, page_at (by omega)]
    exact (par_ok hok (by omega) hp).2.2
theorem Anc.trans {g : G} {a m n : Int} (h1 : Anc g a m) (h2 : Anc g m n) : Anc g a n := by
  induction h2 with
  | self => exact h1
  | step _ hn hl hp ih => exact Anc.step ih hn hl hp
/-- A revision that is not its page's first has a parent. -/
theorem has_par {g : G} (hok : okFrom g 0 = true) {i : Nat} (hi : i < g.length) (hk : knownB (g.take i) (g[i]).f1 = true) : ∃ p, p ∈ (g[i]).f3 := by
  have h := ok_all hok hi
  unfold rightB at h
  simp only [Bool.and_eq_true, decide_eq_true_iff] at h
  obtain ⟨_, _, hl, _⟩ := h
  unfold parN at hl
  rw [if_pos hk] at hl
  have : 0 < (g[i]).f3.length := by
    by_cases c : (g[i]).f2 = 1 ∨ (g[i]).f2 = 3
    · rw [if_pos c] at hl; omega
    · rw [if_neg c] at hl
      by_cases c2 : (g[i]).f2 = 2
      · rw [if_pos c2] at hl; omega
      · rw [if_neg c2] at hl; omega
  exact ⟨_, List.getElem_mem this⟩
/-- A page's first revision is an ancestor of each one of the page. -/
theorem first_anc {g : G} (hok : okFrom g 0 = true) {f : Nat} (hf : f < g.length) (hmin : ∀ j (hj : j < g.length), j < f → (g[j]).f1.toList ≠ (g[f]).f1.toList) : ∀ n i : Nat, i ≤ n → (hi : i < g.length) → (g[i]).f1.toList = (g[f]).f1.toList → Anc g ((i : Int) + 1) ((f : Int) + 1) := by
  intro n
  induction n with
  | zero =>
    intro i hin hi he
    have : i = f := by
      rcases Nat.lt_or_ge i f with z | z
      · exact absurd he (hmin i hi z)
      · omega
    subst this
    exact Anc.self
  | succ n ih =>
    intro i hin hi he
    rcases Nat.lt_trichotomy i f with z | z | z
    · exact absurd he (hmin i hi z)
    · subst z; exact Anc.self
    · have hk : knownB (g.take i) (g[i]).f1 = true := by
        unfold knownB
        refine List.any_eq_true.2 ⟨g[f], ?_, beq_iff_eq.2 he.symm⟩
        rw [List.mem_iff_getElem]
        exact ⟨f, by rw [List.length_take]; omega, by rw [List.getElem_take]⟩
      obtain ⟨p, hp⟩ := has_par hok hi hk
      obtain ⟨h1, h2, h3⟩ := par_ok hok hi hp
      obtain ⟨q, hq⟩ := Int.eq_ofNat_of_zero_le (show 0 ≤ p - 1 by omega)
      obtain rfl : p = (q : Int) + 1 := by omega
      have hql : q < g.length := by omega
      rw [show (q : Int) + 1 - 1 = (q : Int) by omega, rdg hql] at h3
      have := ih q (by omega) hql (h3.trans he)
      exact (Anc.step Anc.self (by omega) (by omega) (by rw [pars_at hi]; exact hp)).trans this
/-- A least place. -/
theorem least_of {P : Nat → Prop} [DecidablePred P] : ∀ n, P n → ∃ m, P m ∧ ∀ j, j < m → ¬ P j := by
  intro n
  induction n using Nat.strongRecOn with
  | _ n ih =>
    intro hn
    by_cases h : ∃ j, j < n ∧ P j
    · obtain ⟨j, hj, hp⟩ := h
      exact ih j hj hp
    · exact ⟨n, hn, fun j hj hp => h ⟨j, hj, hp⟩⟩
/-! #### bases -/
theorem bst_comm (P Q : Nat → Bool) : ∀ m, bst P Q m = bst Q P m
  | 0 => rfl
  | m + 1 => by unfold bst; rw [bst_comm P Q m, Bool.and_comm]
theorem bst_max (P Q : Nat → Bool) : ∀ m i, i < m → P i = true → Q i = true → (i : Int) + 1 ≤ bst P Q m
  | 0, _, h, _, _ => absurd h (Nat.not_lt_zero _)
  | m + 1, i, h, hp, hq => by
    unfold bst
    by_cases c : (P m && Q m) = true
    · rw [if_pos c]; omega
    · rw [if_neg c]
      by_cases e : i = m
      · subst e; rw [hp, hq] at c; exact absurd rfl c
      · exact bst_max P Q m i (by omega) hp hq
theorem bst_at (P Q : Nat → Bool) : ∀ m, 0 < bst P Q m → ∃ i, i < m ∧ P i = true ∧ Q i = true ∧ bst P Q m = (i : Int) + 1
  | 0, h => by unfold bst at h; omega
  | m + 1, h => by
    unfold bst at h ⊢
    by_cases c : (P m && Q m) = true
    · rw [if_pos c]
      rw [Bool.and_eq_true] at c
      exact ⟨m, Nat.lt_succ_self _, c.1, c.2, rfl⟩
    · rw [if_neg c] at h ⊢
      obtain ⟨i, hi, h1, h2, e⟩ := bst_at P Q m h
      exact ⟨i, by omega, h1, h2, e⟩
theorem ancL_iff {g : G} {a : Int} (h : In g a) (x : Int) : (ancL g a).contains x = true ↔ Anc g a x := by
  obtain ⟨hl, hok⟩ := check0 h.2.2
  rw [List.contains_iff_mem]
  unfold ancL
  rw [ids_mem]
  refine ⟨fun ⟨i, _, hi, e⟩ => by rw [e]; exact (mk_iff hok h.1 h.2.1 i).1 hi, fun z => ?_⟩
  have hb := z.bound hok h.1
  have h2 := h.2.1
  refine ⟨(x - 1).toNat, by omega, (mk_iff hok h.1 h.2.1 _).2 ?_, by omega⟩
  rw [show (((x - 1).toNat : Nat) : Int) + 1 = x by omega]
  exact z
theorem base_iff {g : G} {a b : Int} (ha : In g a) (hb : In g b) : (0 < baseN g a b) ↔ page g a = page g b := by
  obtain ⟨hl, hok⟩ := check0 ha.2.2
  refine ⟨fun h => ?_, fun h => ?_⟩
  · obtain ⟨i, hi, h1, h2, _⟩ := bst_at _ _ _ h
    have ea := ((mk_iff hok ha.1 ha.2.1 i).1 h1).page hok
    have eb := ((mk_iff hok hb.1 hb.2.1 i).1 h2).page hok
    rw [← ea, ← eb]
  · have h1 := ha.1
    have h2 := ha.2.1
    have h3 := hb.1
    have h4 := hb.2.1
    obtain ⟨i, hi⟩ := Int.eq_ofNat_of_zero_le (show 0 ≤ a - 1 by omega)
    obtain ⟨j, hj⟩ := Int.eq_ofNat_of_zero_le (show 0 ≤ b - 1 by omega)
    obtain rfl : a = (i : Int) + 1 := by omega
    obtain rfl : b = (j : Int) + 1 := by omega
    have hil : i < g.length := by omega
    have hjl : j < g.length := by omega
    rw [page_at hil, page_at hjl] at h
    obtain ⟨f, hf, hmin⟩ := least_of (P := fun m => ∃ hm : m < g.length, (g[m]).f1.toList = (g[i]).f1.toList) i ⟨hil, rfl⟩
    obtain ⟨hfl, hfe⟩ := hf
    have hm' : ∀ j (hj : j < g.length), j < f → (g[j]).f1.toList ≠ (g[f]).f1.toList := fun j hj hjf e => hmin j hjf ⟨hj, e.trans hfe⟩
    have ea := first_anc hok hfl hm' i i (Nat.le_refl _) hil hfe.symm
    have eb := first_anc hok hfl hm' j j (Nat.le_refl _) hjl (h.symm.trans hfe.symm)
    have := bst_max (mkP g ((i : Int) + 1)) (mkP g ((j : Int) + 1)) g.length f hfl ((mk_iff hok ha.1 ha.2.1 f).2 ea) ((mk_iff hok hb.1 hb.2.1 f).2 eb)
    unfold baseN
    omega
/-- The base is an ancestor of both, and none is greater. -/
theorem base_anc {g : G} {a b : Int} (ha : In g a) (hb : In g b) (h : 0 < baseN g a b) : Anc g a (baseN g a b) ∧ Anc g b (baseN g a b) := by
  obtain ⟨hl, hok⟩ := check0 ha.2.2
  obtain ⟨i, hi, h1, h2, e⟩ := bst_at _ _ _ h
  have e' : baseN g a b = (i : Int) + 1 := e
  rw [e']
  exact ⟨(mk_iff hok ha.1 ha.2.1 i).1 h1, (mk_iff hok hb.1 hb.2.1 i).1 h2⟩
theorem base_max {g : G} {a b : Int} (ha : In g a) (hb : In g b) {x : Int} (h1 : Anc g a x) (h2 : Anc g b x) : x ≤ baseN g a b := by
  obtain ⟨hl, hok⟩ := check0 ha.2.2
  have hbd := h1.bound hok ha.1
  have hal := ha.2.1
  have e : (((x - 1).toNat : Nat) : Int) + 1 = x := by omega
  have := bst_max (mkP g a) (mkP g b) g.length (x - 1).toNat (by omega) ((mk_iff hok ha.1 ha.2.1 _).2 (by rw [e]; exact h1)) ((mk_iff hok hb.1 hb.2.1 _).2 (by rw [e]; exact h2))
  unfold baseN
  omega
/-- The law, of any graph and any two numbers. -/
theorem DagFollows (g : G) (a b : Int) : ∃ k, rectolaw31_DagFollows.f k g a b = some true := Ev.rounds (by
  have four : Ev (fun k => (rectolaw31_four.f k).bind fun t354 => some t354) true := Ev.bind four_ev (Ev.now _)
  have yes : Ev (fun k => rectolaw31_DagFollows.j0 k g a b true) true := Ev.step (fun k => by rw [rectolaw31_DagFollows.j0]) (Ev.ite_pos rfl four)
  unfold rectolaw31_DagFollows.f
  rcases long_or g with ⟨hg, _, hlg⟩ | h
  case inr => exact Ev.bind h (Ev.ite_pos rfl yes)
  have hl := hg.len
  refine Ev.bind hlg (Ev.ite_neg (by decide) (Ev.bind (check_ev hg) ?_))
  by_cases hc : checkN g = 0
  case neg => exact Ev.ite_neg hc yes
  refine Ev.ite_pos hc ?_
  by_cases a1 : a < 1
  · exact Ev.ite_pos a1 yes
  refine Ev.ite_neg a1 ?_
  by_cases a2 : a > (g.length : Int)
  · exact Ev.ite_pos a2 yes
  refine Ev.ite_neg a2 ?_
  by_cases b1 : b < 1
  · exact Ev.ite_pos b1 yes
  refine Ev.ite_neg b1 ?_
  by_cases b2 : b > (g.length : Int)
  · rw [decide_eq_true b2]; exact yes
  rw [decide_eq_false b2]
  have ha : In g a := ⟨by omega, by omega, hc⟩
  have hb : In g b := ⟨by omega, by omega, hc⟩
  obtain ⟨_, hok⟩ := check0 hc
  have hla : (ancL g a).length ≤ 100000 := by have := ids_len (mkP g a) g.length; unfold ancL; omega
  have hlb : (ancL g b).length ≤ 100000 := by have := ids_len (mkP g b) g.length; unfold ancL; omega
  have hba : baseN g b a = baseN g a b := bst_comm _ _ _
  refine Ev.step (fun k => by rw [rectolaw31_DagFollows.j0]) (Ev.ite_neg (by decide) (Ev.bind (Ev.cast (anc_ev hg a) (if_pos ha)) (Ev.bind (Ev.cast (anc_ev hg b) (if_pos hb)) (Ev.bind (Ev.cast (base_ev hg a b) (if_pos ⟨ha, hb⟩)) (Ev.bind (Ev.cast (base_ev hg b a) (if_pos ⟨hb, ha⟩)) ?_)))))
  rw [hba, w64 (x := a - 1) (by omega) (by omega), w64 (x := b - 1) (by omega) (by omega)]
  refine Ev.ite_pos (by omega) (Ev.ite_pos (by omega) (Ev.ite_pos (by omega) (Ev.ite_pos (by omega) ?_)))
  have hp : decide (0 < baseN g a b) = ((rd_T43 g (a - 1)).f1.toList == (rd_T43 g (b - 1)).f1.toList) := by
    rw [Bool.eq_iff_iff, decide_eq_true_iff, beq_iff_eq]
    exact base_iff ha hb
  refine Ev.ite_neg (by rw [← hp, bne_self_eq_false]; decide) (Ev.ite_neg (by rw [bne_self_eq_false]; decide) ?_)
  rw [bne_self_eq_false]
  refine Ev.step (fun k => by rw [rectolaw31_DagFollows.j1]) (Ev.ite_neg (by decide) ?_)
  have last : Ev (fun k => (rectolaw31_has.f k (ancL g a) b).bind fun t393 => if t393 = true then (if baseN g a b = b then (rectolaw31_four.f k).bind fun t394 => some t394 else some false) else (rectolaw31_four.f k).bind fun t395 => some t395) true := by
    refine Ev.bind (lhas_ev hla b) ?_
    by_cases q : (ancL g a).contains b = true
    · refine Ev.ite_pos q (Ev.ite_pos ?_ four)
      have hab := (ancL_iff ha b).1 q
      have h1 := base_max ha hb hab Anc.self
      have h2 := (base_anc ha hb (by omega)).2.bound hok hb.1
      omega
    · exact Ev.ite_neg q four
  have end_ : Ev (fun k => if decide (0 < baseN g a b) = true then ((rectolaw31_has.f k (ancL g a) (baseN g a b)).bind fun t390 => if t390 = true then ((rectolaw31_has.f k (ancL g b) (baseN g a b)).bind fun t391 => if t391 = true then ((rectolaw31_has.f k (ancL g a) a).bind fun t392 => if t392 = true then ((rectolaw31_has.f k (ancL g a) b).bind fun t393 => if t393 = true then (if baseN g a b = b then (rectolaw31_four.f k).bind fun t394 => some t394 else some false) else (rectolaw31_four.f k).bind fun t395 => some t395) else some false) else some false) else some false) else ((rectolaw31_has.f k (ancL g a) a).bind fun t396 => if t396 = true then ((rectolaw31_has.f k (ancL g a) b).bind fun t397 => if t397 = true then (if baseN g a b = b then (rectolaw31_four.f k).bind fun t398 => some t398 else some false) else (rectolaw31_four.f k).bind fun t399 => some t399) else some false)) true := by
    have self : Ev (fun k => rectolaw31_has.f k (ancL g a) a) true := Ev.cast (lhas_ev hla a) ((ancL_iff ha a).2 Anc.self)
    by_cases z : 0 < baseN g a b
    · obtain ⟨e1, e2⟩ := base_anc ha hb z
      exact Ev.ite_pos (decide_eq_true z) (Ev.bind (Ev.cast (lhas_ev hla _) ((ancL_iff ha _).2 e1)) (Ev.ite_pos rfl (Ev.bind (Ev.cast (lhas_ev hlb _) ((ancL_iff hb _).2 e2)) (Ev.ite_pos rfl (Ev.bind self (Ev.ite_pos rfl last))))))
    · exact Ev.ite_neg (by rw [decide_eq_false z]; decide) (Ev.bind self (Ev.ite_pos rfl last))
  have loop : ∀ d i : Nat, i + d = (ancL g a).length → Ev (fun k => rectolaw31_DagFollows.l0 k a b (ancL g a) (ancL g b) (baseN g a b) (decide (0 < baseN g a b)) (ancL g a) ((ancL g a).length : Int) (i : Int)) true := fun d => by
    induction d with
    | zero => exact fun i h => Ev.step (fun k => by rw [rectolaw31_DagFollows.l0]) (Ev.ite_neg (by omega) end_)
    | succ d ih =>
      intro i h
      have hi : i < (ancL g a).length := by omega
      have hm := (ancL_iff ha (ancL g a)[i]).1 (List.contains_iff_mem.2 (List.getElem_mem hi))
      have hbd := hm.bound hok ha.1
      refine Ev.step (fun k => by rw [rectolaw31_DagFollows.l0]) (Ev.ite_pos (by omega) (Ev.ite_pos (by omega) (Ev.ite_pos (by omega) ?_)))
      rw [rd_get hi, w1 (by omega)]
      refine Ev.ite_neg (by omega) (Ev.bind (lhas_ev hlb _) ?_)
      by_cases q : (ancL g b).contains (ancL g a)[i] = true
      · have h1 := base_max ha hb hm ((ancL_iff hb _).1 q)
        exact Ev.ite_pos q (Ev.ite_pos (decide_eq_true (by omega)) (Ev.ite_neg (by omega) (ih (i + 1) (by omega))))
      · exact Ev.ite_neg q (ih (i + 1) (by omega))
  exact loop (ancL g a).length 0 (by omega))
end Go.Proofs.YtgopimjfoppkmaaDoor.D
