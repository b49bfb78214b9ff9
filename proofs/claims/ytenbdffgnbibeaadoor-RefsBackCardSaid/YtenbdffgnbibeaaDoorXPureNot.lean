/- References, plainly: names, numbers, and the closing test. -/
import Derived.Test.YtenbdffgnbibeaaDoorXPureAll
import Derived.Test.YtenbdffgnbibeaaDoorX2
import Derived.Test.YtenbdffgnbibeaaDoorX5
namespace Go.Proofs.YtenbdffgnbibeaaDoor.X
open Go.RowKit Go.Proofs.YtenbdffgnbibeaaDoorW.PrintWords Go.Proofs.YtenbdffgnbibeaaDoorW.PrintLast

theorem notin_ev : Ev (fun k => rectolaw04_notin.f k) true := Ev.of (k := 64) rectolaw04_notin.mono (by kernel_rfl)
end Go.Proofs.YtenbdffgnbibeaaDoor.X
