/- RefsAt, plainly: what stands at each place of any text. -/
import Derived.Test.YtenbdffgnbibeaaDoorRPureNot
import Derived.Test.YtenbdffgnbibeaaDoorRPureRefRAt
import Derived.Test.YtenbdffgnbibeaaDoorR9
namespace Go.Proofs.YtenbdffgnbibeaaDoor.R
open Go.RowKit Go.Proofs.YtenbdffgnbibeaaDoorW.PrintWords Go.Proofs.YtenbdffgnbibeaaDoorW.PrintLast

theorem RefsAt : rectolaw04_RefsAt.Pure := fun s i v hs _ => Ev.rounds (by
  unfold rectolaw04_RefsAt.f
  by_cases big : (s.size : Int) > 2000
  · exact Ev.ite_pos big (Ev.bind notin_ev (Ev.now _))
  refine Ev.ite_neg big ?_
  have join : ∀ g : ByteArray × Int, Ev (fun k => refs_At.f k s i v) g → Ev (fun k => rectoref04_At.f k s i v) g → Ev (fun k => ((refs_At.f k s i v).bind fun bt212 => ((rectoref04_At.f k s i v).bind fun bt214 => (if bt212.1.toList = bt214.1.toList then (if bt212.2 = bt214.2 then ((rectolaw04_notin.f k).bind fun t217 => (some t217)) else (some false)) else (some false))))) true := fun g h1 h2 =>
    Ev.bind h1 (Ev.bind h2 (Ev.ite_pos rfl (Ev.ite_pos rfl (Ev.bind notin_ev (Ev.now _)))))
  by_cases h : i < 0 ∨ (s.size : Int) ≤ i
  · exact join _ (refAt_out h) (rAt_out h)
  · obtain ⟨n, rfl⟩ := Int.eq_ofNat_of_zero_le (show 0 ≤ i by omega)
    exact join _ (refAt_ev (by omega) (by omega)) (rAt_in (by omega) (by omega)))
end Go.Proofs.YtenbdffgnbibeaaDoor.R
