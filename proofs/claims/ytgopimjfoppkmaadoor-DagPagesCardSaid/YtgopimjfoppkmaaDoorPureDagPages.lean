/- DagPages, plainly: a page's head, its history, and its leaves, of any graph. -/
import Derived.Test.YtgopimjfoppkmaaDoorDPureDag
import Derived.Test.YtgopimjfoppkmaaDoorD14
import Derived.Test.YtgopimjfoppkmaaDoorD15
import Derived.Test.YtgopimjfoppkmaaDoorD7
namespace Go.Proofs.YtgopimjfoppkmaaDoor.D
open Go.RowKit Go.Proofs.YtgopimjfoppkmaaDoorW.PrintWords Go.Proofs.YtgopimjfoppkmaaDoorW.PrintLast

/-- A page's history among the first m revisions, the last one first. -/
def histR (g : G) (s : ByteArray) : Nat → List Int
  | 0 => []
  | m + 1 => (if (rd_T43 g (m : Int)).f1.toList = s.toList then [((m + 1 : Nat) : Int)] else []) ++ histR g s m
theorem histR_len (g : G) (s : ByteArray) : ∀ m, (histR g s m).length ≤ m
  | 0 => Nat.le_refl _
  | m + 1 => by
    have := histR_len g s m
    unfold histR
    rw [List.length_append]
    split <;> simp <;> omega
theorem histF_R {g : G} (hok : okFrom g 0 = true) (s : ByteArray) : ∀ m, m ≤ g.length → histF g s (dn g.length g.length) = histF g s (dn g.length (g.length - m)) ++ histR g s m
  | 0, _ => by rw [Nat.sub_zero]; unfold histR; rw [List.append_nil]
  | m + 1, h => by
    have ih := histF_R hok s m (by omega)
    rw [dn_succ (show m < g.length by omega)] at ih
    rw [ih]
    by_cases q : (rd_T43 g (m : Int)).f1.toList = s.toList
    · rw [histF_hit g s _ q, List.append_assoc]
      congr 1
      conv => rhs; unfold histR
      rw [if_pos q]
      congr 1
      show [(rd_T43 g (m : Int)).f0] = _
      rw [rdg (by omega), ok_id hok (by omega)]
    · rw [histF_miss g s _ q]
      conv => rhs; unfold histR
      rw [if_neg q, List.nil_append]
theorem histF_all {g : G} (hok : okFrom g 0 = true) (s : ByteArray) : histF g s (dn g.length g.length) = histR g s g.length := by
  have := histF_R hok s g.length (Nat.le_refl _)
  rw [Nat.sub_self, dn_zero] at this
  exact this
theorem hist_ev {g : G} (hg : Fit g) (s : ByteArray) : Ev (fun k => dag_History.f k g s) (if checkN g = 0 then histR g s g.length else []) := by
  unfold dag_History.f
  refine Ev.bind (check_ev hg) ?_
  by_cases c : checkN g = 0
  · exact Ev.ite_pos c (Ev.cast (Ev.now _) (by rw [if_pos c, histF_all (check0 c).2]))
  · exact Ev.ite_neg c (Ev.cast (Ev.now _) (if_neg c).symm)
theorem rhist_l {g : G} (hg : g.length ≤ 1010) (s : ByteArray) : ∀ (m : Nat) (acc : List Int), m ≤ g.length → acc.length + m ≤ 1010 → Ev (fun k => rectoref31_History.l0 k (g.map cv) s acc ((m : Int) - 1)) (acc ++ histR g s m)
  | 0, acc, _, _ => Ev.step (fun k => by rw [rectoref31_History.l0]) (Ev.ite_neg (by omega) (Ev.cast (Ev.now _) (by unfold histR; rw [List.append_nil])))
  | m + 1, acc, h, ha => by
    have hml : (g.map cv).length = g.length := List.length_map ..
    have e : ((m + 1 : Nat) : Int) - 1 = (m : Int) := by omega
    refine Ev.step (fun k => by rw [rectoref31_History.l0]) ?_
    rw [e]
    refine Ev.ite_pos (by omega) (Ev.ite_pos (by omega) (Ev.ite_pos (by rw [hml]; omega) ?_))
    rw [rdr (show m < g.length by omega), w1 (by omega), w64 (x := (m : Int) - 1) (by omega) (by omega)]
    unfold histR
    rw [rdg (show m < g.length by omega)]
    by_cases q : (g[m]'(by omega)).f1.toList = s.toList
    · rw [if_pos q, ← List.append_assoc]
      exact Ev.ite_pos q (Ev.ite_pos (by omega) (rhist_l hg s m _ (by omega) (by rw [List.length_append]; simp; omega)))
    · rw [if_neg q, List.nil_append]
      exact Ev.ite_neg q (rhist_l hg s m _ (by omega) (by omega))
theorem rhist_ev {g : G} (hg : g.length ≤ 1010) (s : ByteArray) : Ev (fun k => rectoref31_History.f k (g.map cv) s) (histR g s g.length) := by
  unfold rectoref31_History.f
  rw [List.length_map, w64 (by omega) (by omega)]
  exact rhist_l hg s g.length [] (Nat.le_refl _) (by simpa using hg)
def headP (l : List Int) : Int × Bool := match l with | [] => (0, false) | x :: _ => (x, true)
theorem head_ev {g : G} (hg : Fit g) (s : ByteArray) : Ev (fun k => dag_Head.f k g s) (headP (if checkN g = 0 then histR g s g.length else [])) := by
  unfold dag_Head.f
  refine Ev.bind (hist_ev hg s) ?_
  generalize (if checkN g = 0 then histR g s g.length else []) = l
  cases l with
  | nil => exact Ev.ite_pos rfl (Ev.now _)
  | cons x l => exact Ev.ite_neg (by simp only [List.length_cons]; omega) (Ev.ite_pos (by simp only [List.length_cons]; omega) (Ev.now _))
/-! #### leaves -/
def leavesL (g : G) (s : ByteArray) : List Int := (g.filter fun r => (r.f1.toList == s.toList) && !isParent g r.f0).map fun r => r.f0
theorem histR_rev {g : G} (hok : okFrom g 0 = true) (s : ByteArray) : ∀ m, m ≤ g.length → (histR g s m).reverse = ((g.take m).filter fun r => r.f1.toList == s.toList).map fun r => r.f0
  | 0, _ => rfl
  | m + 1, h => by
    have hm : m < g.length := by omega
    rw [← List.take_concat_get (h := hm), List.concat_eq_append, List.filter_append, List.map_append, ← histR_rev hok s m (by omega)]
    conv => lhs; unfold histR
    rw [List.reverse_append, rdg hm]
    congr 1
    by_cases q : (g[m]).f1.toList = s.toList
    · rw [if_pos q, List.filter_cons_of_pos (by simpa using q)]
      simp only [List.filter_nil, List.map_cons, List.map_nil, List.reverse_singleton, ok_id hok hm]
    · rw [if_neg q, List.filter_cons_of_neg (by simpa using q)]
      rfl
theorem leaves_eq {g : G} (hok : okFrom g 0 = true) (s : ByteArray) : ((histR g s g.length).reverse.filter fun id => !isParent g id) = leavesL g s := by
  rw [histR_rev hok s g.length (Nat.le_refl _), List.take_length, List.filter_map, List.filter_filter]
  unfold leavesL
  congr 1
  refine List.filter_congr fun r _ => ?_
  rw [Bool.and_comm]; rfl
theorem leaves_ev {g : G} (hg : Fit g) (s : ByteArray) : Ev (fun k => dag_Leaves.f k g s) (if checkN g = 0 then leavesL g s else []) := by
  unfold dag_Leaves.f
  refine Ev.bind (hist_ev hg s) (Ev.cast (Ev.now _) ?_)
  by_cases c : checkN g = 0
  · rw [if_pos c, if_pos c, leaves_eq (check0 c).2]
  · rw [if_neg c, if_neg c]; rfl
theorem rleaves_l1 {g : G} (hg : Fit g) (s : ByteArray) (acc : List Int) (i : Nat) (r : S43) (out : List Int) (d : Nat) : ∀ (j : Nat) (b : Bool), j + d = g.length →
    (acc.length + 1 < 10000) →
    Ev (fun k => if (b && !(g.drop j).any fun x => x.f3.contains r.f0) = true then rectoref31_Leaves.l0 k (g.map cv) s (acc ++ [r.f0]) (g.map cv) (g.length : Int) (wrap64 ((i : Int) + 1)) else rectoref31_Leaves.l0 k (g.map cv) s acc (g.map cv) (g.length : Int) (wrap64 ((i : Int) + 1))) out →
    Ev (fun k => rectoref31_Leaves.l1 k (g.map cv) s acc b (g.map cv) (g.length : Int) (i : Int) (g.map cv) (g.length : Int) (j : Int) r.f0 r.f1 r.f2 r.f3) out := by
  have hl := hg.len
  have hml : (g.map cv).length = g.length := List.length_map ..
  induction d with
  | zero =>
    intro j b h ha hr
    rw [List.drop_eq_nil_of_le (by omega), List.any_nil, Bool.not_false, Bool.and_true] at hr
    refine Ev.step (fun k => by rw [rectoref31_Leaves.l1]) (Ev.ite_neg (by omega) ?_)
    cases b
    · exact Ev.ite_neg (by decide) (Ev.congr (fun k => (if_neg (by decide)).symm) hr)
    · exact Ev.ite_pos rfl (Ev.ite_pos (by omega) (Ev.congr (fun k => (if_pos rfl).symm) hr))
  | succ d ih =>
    intro j b h ha hr
    have hj : j < g.length := by omega
    rw [List.drop_eq_getElem_cons hj, List.any_cons, Bool.not_or, ← Bool.and_assoc] at hr
    refine Ev.step (fun k => by rw [rectoref31_Leaves.l1]) (Ev.ite_pos (by omega) (Ev.ite_pos (by omega) (Ev.ite_pos (by rw [hml]; omega) ?_)))
    rw [rdr hj, w1 (by omega)]
    cases b
    · rw [Bool.false_and] at hr
      exact Ev.ite_neg (by decide) (ih (j + 1) false (by omega) ha hr)
    · rw [Bool.true_and] at hr
      exact Ev.ite_pos rfl (Ev.bind (has_ev (by have := (hg.at hj).1; show (g[j]).f3.length ≤ _; omega) _) (ih (j + 1) _ (by omega) ha hr))
theorem rleaves_l0 {g : G} (hg : Fit g) (s : ByteArray) (d : Nat) : ∀ (i : Nat) (acc : List Int), i + d = g.length → acc.length ≤ i →
    Ev (fun k => rectoref31_Leaves.l0 k (g.map cv) s acc (g.map cv) (g.length : Int) (i : Int)) (acc ++ ((g.drop i).filter fun r => (r.f1.toList == s.toList) && !isParent g r.f0).map fun r => r.f0) := by
  have hl := hg.len
  have hml : (g.map cv).length = g.length := List.length_map ..
  induction d with
  | zero =>
    intro i acc h ha
    refine Ev.step (fun k => by rw [rectoref31_Leaves.l0]) (Ev.ite_neg (by omega) (Ev.cast (Ev.now _) ?_))
    rw [List.drop_eq_nil_of_le (by omega)]
    exact (List.append_nil _).symm
  | succ d ih =>
    intro i acc h ha
    have hi : i < g.length := by omega
    refine Ev.step (fun k => by rw [rectoref31_Leaves.l0]) (Ev.ite_pos (by omega) (Ev.ite_pos (by omega) (Ev.ite_pos (by rw [hml]; omega) ?_)))
    rw [rdr hi, hml]
    refine rleaves_l1 hg s acc i g[i] _ g.length 0 _ (by omega) (by omega) ?_
    rw [List.drop_zero, show (g.any fun x => x.f3.contains (g[i]).f0) = isParent g (g[i]).f0 from rfl, List.drop_eq_getElem_cons hi, w1 (by omega)]
    by_cases q : ((g[i]).f1.toList == s.toList && !isParent g (g[i]).f0) = true
    · rw [List.filter_cons_of_pos (by exact q), List.map_cons]
      exact Ev.ite_pos q (Ev.cast (ih (i + 1) (acc ++ [(g[i]).f0]) (by omega) (by rw [List.length_append]; show _ + 1 ≤ _; omega)) (by rw [List.append_assoc]; rfl))
    · rw [List.filter_cons_of_neg (by exact q)]
      exact Ev.ite_neg q (ih (i + 1) _ (by omega) (by omega))
theorem rleaves_ev {g : G} (hg : Fit g) (s : ByteArray) : Ev (fun k => rectoref31_Leaves.f k (g.map cv) s) (leavesL g s) := by
  unfold rectoref31_Leaves.f
  rw [List.length_map]
  exact rleaves_l0 hg s g.length 0 [] (by omega) (Nat.le_refl _)
theorem leavesL_len (g : G) (s : ByteArray) : (leavesL g s).length ≤ g.length := by
  unfold leavesL
  rw [List.length_map]
  exact List.length_filter_le _ _
/-- The law, of any graph and any page. -/
theorem DagPages (g : G) (s : ByteArray) : ∃ k, rectolaw31_DagPages.f k g s = some true := Ev.rounds (by
  have yes : ∀ b : Bool, b = true → Ev (fun k => rectolaw31_DagPages.j0 k g s b) true := fun b hb =>
    Ev.step (fun k => by rw [rectolaw31_DagPages.j0]) (Ev.ite_pos hb (Ev.bind four_ev (Ev.now _)))
  unfold rectolaw31_DagPages.f
  rcases long_or g with ⟨hg, _, hlg⟩ | h
  case inr => exact Ev.bind h (Ev.ite_pos rfl (yes true rfl))
  refine Ev.bind hlg (Ev.ite_neg (by decide) ?_)
  by_cases big : (s.size : Int) > 200
  · exact yes _ (decide_eq_true big)
  have hl := hg.len
  refine Ev.step (fun k => by rw [rectolaw31_DagPages.j0]) (Ev.ite_neg (by rw [decide_eq_true_eq]; exact big) ?_)
  refine Ev.bind (ref_ev hl) (Ev.bind (head_ev hg s) (Ev.bind (hist_ev hg s) (Ev.bind (leaves_ev hg s) (Ev.bind (rcheck_ev hg) ?_))))
  by_cases c : checkN g = 0
  · rw [if_pos c, if_pos c]
    have hr := histR_len g s g.length
    refine Ev.ite_pos c (Ev.bind (rhist_ev hl s) (Ev.bind (ints_ev (by omega)) (Ev.ite_pos rfl ?_)))
    have fin : Ev (fun k => (rectoref31_Leaves.f k (g.map cv) s).bind fun t321 => (rectoplain_Ints.f k (leavesL g s) t321).bind fun t324 => if t324 = true then (rectolaw31_four.f k).bind fun t325 => some t325 else some false) true :=
      Ev.bind (rleaves_ev hg s) (Ev.bind (ints_ev (by have := leavesL_len g s; omega)) (Ev.ite_pos rfl (Ev.bind four_ev (Ev.now _))))
    generalize histR g s g.length = l at hr ⊢
    cases l with
    | nil => exact Ev.ite_pos (by simp [headP]) (Ev.ite_neg (by simp [headP]) (Ev.ite_pos rfl fin))
    | cons x l =>
      refine Ev.ite_pos (by simp [headP]) (Ev.ite_pos rfl (Ev.ite_pos (by simp only [List.length_cons]; omega) (Ev.ite_pos rfl fin)))
  · rw [if_neg c, if_neg c]
    exact Ev.ite_neg c (Ev.ite_neg (by simp [headP]) (Ev.ite_pos rfl (Ev.ite_pos rfl (Ev.ite_pos rfl (Ev.bind four_ev (Ev.now _)))))))
end Go.Proofs.YtgopimjfoppkmaaDoor.D
