/- RefsEscapes, plainly: any text with references. -/
import Derived.Test.YtenbdffgnbibeaaDoorXPureNot
import Derived.Test.YtenbdffgnbibeaaDoorXPureEsc
import Derived.Test.YtenbdffgnbibeaaDoorX6
namespace Go.Proofs.YtenbdffgnbibeaaDoor.X
open Go.RowKit Go.Proofs.YtenbdffgnbibeaaDoorW.PrintWords Go.Proofs.YtenbdffgnbibeaaDoorW.PrintLast

theorem RefsEscapes : rectolaw04_RefsEscapes.Pure := fun s v hs => Ev.rounds (by
  unfold rectolaw04_RefsEscapes.f
  by_cases big : (s.size : Int) > 2000
  · exact Ev.ite_pos big (Ev.bind notin_ev (Ev.now _))
  exact Ev.ite_neg big (Ev.bind (esc_ev (by omega)) (Ev.bind (resc_ev (by omega)) (Ev.ite_pos rfl (Ev.bind notin_ev (Ev.now _))))))
end Go.Proofs.YtenbdffgnbibeaaDoor.X
