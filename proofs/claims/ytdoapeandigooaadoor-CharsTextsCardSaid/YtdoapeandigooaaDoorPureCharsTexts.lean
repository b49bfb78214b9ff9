/- CharsTexts, plainly: blank, small, trimmed, words. -/
import Derived.Test.YtdoapeandigooaaDoorCPureWords
import Derived.Test.YtdoapeandigooaaDoorC9
namespace Go.Proofs.YtdoapeandigooaaDoor.C
open Go.RowKit Go.Proofs.YtdoapeandigooaaDoorW.PrintWords Go.Proofs.YtdoapeandigooaaDoorW.PrintLast

theorem CharsTexts : rectolaw03_CharsTexts.Pure := fun s hs => Ev.rounds (by
  unfold rectolaw03_CharsTexts.f
  by_cases big : (s.size : Int) > 2000
  · exact Ev.ite_pos big (Ev.bind ends_ev (Ev.now _))
  refine Ev.ite_neg big (Ev.bind (Ev.pure fun _ => blank_ev s) (Ev.bind (rblank_ev (by omega)) (Ev.ite_pos (by simp) ?_)))
  refine Ev.bind (Ev.pure fun _ => lower_ev (by omega)) (Ev.bind (rlower_ev (by omega)) (Ev.ite_pos rfl ?_))
  refine Ev.bind (trim_ev (by omega)) (Ev.bind (rtrim_ev (by omega)) (Ev.ite_pos rfl ?_))
  have hl := strs_len (s := s)
  exact Ev.bind (words_ev (by omega)) (Ev.bind (rwords_ev (by omega)) (Ev.bind (texts_ev (by omega)) (Ev.ite_pos rfl (Ev.bind ends_ev (Ev.now _))))))
end Go.Proofs.YtdoapeandigooaaDoor.C
