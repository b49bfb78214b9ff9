/- RefsBack, plainly: what was escaped is, all of it, what it was. -/
import Derived.Test.YtenbdffgnbibeaaDoorXPureNot
import Derived.Test.YtenbdffgnbibeaaDoorXPureBack
import Derived.Test.YtenbdffgnbibeaaDoorX7
namespace Go.Proofs.YtenbdffgnbibeaaDoor.X
open Go.RowKit Go.Proofs.YtenbdffgnbibeaaDoorW.PrintWords Go.Proofs.YtenbdffgnbibeaaDoorW.PrintLast

theorem back_l0 {s x : ByteArray} {v : Bool} (hx : ∀ y ∈ bl x, y ≠ 60 ∧ y ≠ 62 ∧ ¬ (v = true ∧ y = 34)) (hz : x.size ≤ 1000000)
    (hall : Ev (fun k => refs_All.f k x v) (strOfNums (cleanL (bl s)))) (hs : s.size ≤ 2000) : ∀ d i : Nat, d + i = x.size → Ev (fun k => rectolaw04_RefsBack.l0 k s v x (i : Int)) true
  | 0, i, h => by
    refine Ev.step (fun k => by rw [rectolaw04_RefsBack.l0]) (Ev.ite_neg (by omega) (Ev.bind (right_ev s) ?_))
    have clean := clean_ev (s := s) (by omega)
    by_cases hr : rightL (bl s) = true
    · have e : strOfNums (cleanL (bl s)) = s := bl_inj (by rw [bl_clean, clean_right _ (byt_bl s) hr])
      exact Ev.ite_pos hr (Ev.bind hall (Ev.ite_pos (by rw [e]) (Ev.bind hall (Ev.bind clean (Ev.ite_pos rfl (Ev.bind notin_ev (Ev.now _)))))))
    · exact Ev.ite_neg hr (Ev.bind hall (Ev.bind clean (Ev.ite_pos rfl (Ev.bind notin_ev (Ev.now _)))))
  | d + 1, i, h => by
    have hi : i < x.size := by omega
    obtain ⟨h60, h62, h34⟩ := hx (bt x (i : Int)) (by rw [bt_in hi, List.getD_eq_getElem?_getD, List.getElem?_eq_getElem (by rw [bl_length]; exact hi)]; exact List.getElem_mem _)
    have next := back_l0 (s := s) hx hz hall hs d (i + 1) (by omega)
    have e1 : wrap64 ((i : Int) + 1) = ((i + 1 : Nat) : Int) := by rw [w64 (by omega) (by omega)]; rfl
    refine Ev.step (fun k => by rw [rectolaw04_RefsBack.l0]) ?_
    rw [e1]
    refine Ev.ite_pos (by omega) (Ev.ite_pos (by omega) (Ev.ite_neg h60 (Ev.ite_neg h62 ?_)))
    by_cases hv : v = true
    · exact Ev.ite_pos hv (Ev.ite_neg (fun z => h34 ⟨hv, z⟩) next)
    · exact Ev.ite_neg hv next
theorem RefsBack : rectolaw04_RefsBack.Pure := fun s v hs => Ev.rounds (by
  unfold rectolaw04_RefsBack.f
  by_cases big : (s.size : Int) > 2000
  · exact Ev.ite_pos big (Ev.bind notin_ev (Ev.now _))
  refine Ev.ite_neg big (Ev.bind (esc_ev (by omega)) ?_)
  have hb : bl (strOfNums (escS v false (bl s))) = escS v false (bl s) := bl_strOfNums (byt_esc v _ _ fun _ hx => bl_range hx)
  have hl := escS_len v false (bl s)
  have hz : (strOfNums (escS v false (bl s))).size ≤ 12000 := by rw [← bl_length, hb]; rw [bl_length] at hl; omega
  refine back_l0 (by rw [hb]; exact esc_no v _ _) (by omega) ?_ (by omega) _ 0 rfl
  refine Ev.cast (refAll_ev (by omega)) ?_
  rw [hb, all_esc v _ _ (Nat.le_refl _) (byt_bl s)])
end Go.Proofs.YtenbdffgnbibeaaDoor.X
