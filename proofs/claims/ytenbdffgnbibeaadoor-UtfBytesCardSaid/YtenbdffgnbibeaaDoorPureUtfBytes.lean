/- UtfBytes, plainly: the bytes of each number are the reference's. -/
import Derived.Test.YtenbdffgnbibeaaDoorUPureUtf
import Derived.Test.YtenbdffgnbibeaaDoorU2
namespace Go.Proofs.YtenbdffgnbibeaaDoor.U
open Go.RowKit Go.Proofs.YtenbdffgnbibeaaDoorW.PrintWords Go.Proofs.YtenbdffgnbibeaaDoorW.PrintLast

theorem UtfBytes : rectolaw02_UtfBytes.Pure := fun c _ => Ev.rounds (by
  unfold rectolaw02_UtfBytes.f
  exact Ev.bind (bytes_ev c) (Ev.bind (refBytes_ev c) (Ev.ite_pos rfl (Ev.bind euro_ev (Ev.now _)))))
end Go.Proofs.YtenbdffgnbibeaaDoor.U
