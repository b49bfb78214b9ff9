/- UtfFirsts, plainly: the first character of any text is the reference's. -/
import Derived.Test.YtenbdffgnbibeaaDoorUPureAt
import Derived.Test.YtenbdffgnbibeaaDoorU3
namespace Go.Proofs.YtenbdffgnbibeaaDoor.U
open Go.RowKit Go.Proofs.YtenbdffgnbibeaaDoorW.PrintWords Go.Proofs.YtenbdffgnbibeaaDoorW.PrintLast

theorem UtfFirsts : rectolaw02_UtfFirsts.Pure := fun s hs => Ev.rounds (by
  unfold rectolaw02_UtfFirsts.f
  by_cases h : bl s = []
  · have h' := bl_nil.2 h
    refine Ev.bind (a := (0, 0)) (Ev.pure fun k => by unfold utf_First.f; rw [if_pos h']) ?_
    refine Ev.bind (a := (0, 0, false)) (Ev.pure fun k => by unfold rectoref02_First.f; rw [if_pos h']) ?_
    exact Ev.ite_pos rfl (Ev.ite_pos rfl (Ev.bind euro_ev (Ev.now _)))
  · have hl : 0 < s.size := by rw [← bl_length]; exact List.length_pos_iff.2 h
    refine Ev.bind (first_ev s h) ?_
    have ha := at_ev (s := s) (i := 0) hl (by omega)
    rw [List.drop_zero] at ha
    refine Ev.bind (a := ((decL (bl s)).1, (decL (bl s)).2.1, (decL (bl s)).2.2)) ?_ ?_
    · unfold rectoref02_First.f
      exact Ev.ite_neg (fun e => h (bl_nil.1 e)) (Ev.bind ha (Ev.now _))
    · exact Ev.ite_pos rfl (Ev.ite_pos rfl (Ev.bind euro_ev (Ev.now _))))
end Go.Proofs.YtenbdffgnbibeaaDoor.U
