/- UtfStays, plainly: what is cleaned is right, and what is right stays; two right texts, one behind the other, are right. -/
import Derived.Test.YtenbdffgnbibeaaDoorUPureAll
import Derived.Test.YtenbdffgnbibeaaDoorU4
namespace Go.Proofs.YtenbdffgnbibeaaDoor.U
open Go.RowKit Go.Proofs.YtenbdffgnbibeaaDoorW.PrintWords Go.Proofs.YtenbdffgnbibeaaDoorW.PrintLast

theorem UtfStays : rectolaw02_UtfStays.Pure := fun s t _ _ => Ev.rounds (by
  unfold rectolaw02_UtfStays.f
  have out : Ev (fun k => rectolaw02_UtfStays.j0 k s t true) true := Ev.step (fun k => by rw [rectolaw02_UtfStays.j0]) (Ev.ite_pos rfl (Ev.bind euro_ev (Ev.now _)))
  by_cases g : (s.size : Int) > 3000
  · exact Ev.ite_pos g out
  refine Ev.ite_neg g ?_
  by_cases g2 : (t.size : Int) > 3000
  · rw [decide_eq_true g2]; exact out
  rw [decide_eq_false g2]
  have bs := byt_bl s
  have bt := byt_bl t
  have ls := clean_length (bl s) bs
  have lt := clean_length (bl t) bt
  rw [bl_length] at ls lt
  have zs : (strOfNums (cleanL (bl s))).size = (cleanL (bl s)).length := strOfNums_size _
  have zt : (strOfNums (cleanL (bl t))).size = (cleanL (bl t)).length := strOfNums_size _
  have cs := bl_clean s
  have ct := bl_clean t
  have cj : bl (strOfNums (cleanL (bl s)) ++ strOfNums (cleanL (bl t))) = cleanL (bl s) ++ cleanL (bl t) := by rw [bl_append, cs, ct]
  have zj : (strOfNums (cleanL (bl s)) ++ strOfNums (cleanL (bl t))).size ≤ 140737488355328 := by
    rw [← bl_length, cj, List.length_append]
    omega
  refine Ev.step (fun k => by rw [rectolaw02_UtfStays.j0]) (Ev.ite_neg (by decide) ?_)
  refine Ev.bind (clean_ev (by omega)) (Ev.bind (clean_ev (by omega)) ?_)
  have r1 := right_ev (strOfNums (cleanL (bl s)))
  rw [cs, right_clean bs] at r1
  refine Ev.bind r1 (Ev.ite_pos rfl ?_)
  have c2 := clean_ev (s := strOfNums (cleanL (bl s))) (by omega)
  rw [cs, clean_clean bs] at c2
  refine Ev.bind c2 (Ev.ite_pos rfl (Ev.ite_pos (by omega) ?_))
  have r2 := right_ev (strOfNums (cleanL (bl s)) ++ strOfNums (cleanL (bl t)))
  rw [cj, right_join bs bt] at r2
  refine Ev.bind r2 (Ev.ite_pos rfl ?_)
  have k1 := count_ev zj
  rw [cj, count_join bs] at k1
  have k2 := count_ev (s := strOfNums (cleanL (bl s))) (by omega)
  rw [cs] at k2
  have k3 := count_ev (s := strOfNums (cleanL (bl t))) (by omega)
  rw [ct] at k3
  have k4 := count_ev (s := s) (by omega)
  have n1 : (all (cleanL (bl s))).length ≤ (cleanL (bl s)).length := by
    have := all_length (cleanL (bl s))
    omega
  have n2 : (all (cleanL (bl t))).length ≤ (cleanL (bl t)).length := by
    have := all_length (cleanL (bl t))
    omega
  refine Ev.bind k1 (Ev.bind k2 (Ev.bind k3 (Ev.ite_pos ?_ (Ev.bind k4 (Ev.ite_pos ?_ (Ev.bind (right_ev s) (Ev.ite_pos ?_ (Ev.bind euro_ev (Ev.now _)))))))))
  · rw [w64 (by omega) (by omega)]
    omega
  · rw [count_clean bs]
  · have key : (strOfNums (cleanL (bl s))).toList = s.toList ↔ rightL (bl s) = true := by
      rw [toList_eq, bl_iff, cs]
      exact clean_iff bs
    rw [beq_iff_eq, Bool.eq_iff_iff, beq_iff_eq]
    exact key)
end Go.Proofs.YtenbdffgnbibeaaDoor.U
