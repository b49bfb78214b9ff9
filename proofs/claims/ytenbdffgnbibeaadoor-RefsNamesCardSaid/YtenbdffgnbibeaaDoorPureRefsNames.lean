/- RefsNames, plainly: the character of each name, and of each number. -/
import Derived.Test.YtenbdffgnbibeaaDoorRPureNot
import Derived.Test.YtenbdffgnbibeaaDoorRPureNames
import Derived.Test.YtenbdffgnbibeaaDoorR9
namespace Go.Proofs.YtenbdffgnbibeaaDoor.R
open Go.RowKit Go.Proofs.YtenbdffgnbibeaaDoorW.PrintWords Go.Proofs.YtenbdffgnbibeaaDoorW.PrintLast

theorem RefsNames : rectolaw04_RefsNames.Pure := fun s n _ _ => Ev.rounds (by
  unfold rectolaw04_RefsNames.f
  refine Ev.bind (name_ev s) (Ev.bind (rname_ev s) (Ev.ite_pos (by simp) (Ev.ite_pos rfl ?_)))
  exact Ev.bind (num_ev n) (Ev.bind (rnum_ev n) (Ev.ite_pos rfl (Ev.bind notin_ev (Ev.now _)))))
end Go.Proofs.YtenbdffgnbibeaaDoor.R
