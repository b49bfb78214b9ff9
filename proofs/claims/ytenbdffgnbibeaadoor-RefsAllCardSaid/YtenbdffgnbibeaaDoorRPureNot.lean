/- References, plainly: names, numbers, and the closing test. -/
import Derived.Test.YtenbdffgnbibeaaDoorRPureAll
import Derived.Test.YtenbdffgnbibeaaDoorR2
import Derived.Test.YtenbdffgnbibeaaDoorR5
import Derived.Test.YtenbdffgnbibeaaDoorR6
import Derived.Test.YtenbdffgnbibeaaDoorR8
namespace Go.Proofs.YtenbdffgnbibeaaDoor.R
open Go.RowKit Go.Proofs.YtenbdffgnbibeaaDoorW.PrintWords Go.Proofs.YtenbdffgnbibeaaDoorW.PrintLast

theorem notin_ev : Ev (fun k => rectolaw04_notin.f k) true := Ev.of (k := 64) rectolaw04_notin.mono (by kernel_rfl)
end Go.Proofs.YtenbdffgnbibeaaDoor.R
