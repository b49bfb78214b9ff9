/- CharsReady, plainly: what comes in, made ready, or that it is too long. -/
import Derived.Test.YtdoapeandigooaaDoorCPureChars
import Derived.Test.YtdoapeandigooaaDoorC7
namespace Go.Proofs.YtdoapeandigooaaDoor.C
open Go.RowKit Go.Proofs.YtdoapeandigooaaDoorW.PrintWords Go.Proofs.YtdoapeandigooaaDoorW.PrintLast

theorem CharsReady : rectolaw03_CharsReady.Pure := fun s hs => Ev.rounds (by
  unfold rectolaw03_CharsReady.f
  by_cases big : s.size > 4000
  · exact Ev.bind (ready_long big) (Ev.ite_pos (by omega) (Ev.ite_pos rfl (Ev.ite_pos ((nil_iff _).2 rfl) (Ev.bind ends_ev (Ev.now _)))))
  · exact Ev.bind (ready_ev (by omega)) (Ev.ite_neg (by omega) (Ev.bind (rready_ev (by omega)) (Ev.ite_pos rfl (Ev.ite_pos rfl (Ev.bind ends_ev (Ev.now _)))))))
end Go.Proofs.YtdoapeandigooaaDoor.C
