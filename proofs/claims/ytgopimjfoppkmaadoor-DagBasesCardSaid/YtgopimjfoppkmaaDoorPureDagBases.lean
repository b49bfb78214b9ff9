/- DagBases, plainly: a revision's ancestors, and the base of any two, of any graph. -/
import Derived.Test.YtgopimjfoppkmaaDoorDPureDagAnc
import Derived.Test.YtgopimjfoppkmaaDoorD15
namespace Go.Proofs.YtgopimjfoppkmaaDoor.D
open Go.RowKit Go.Proofs.YtgopimjfoppkmaaDoorW.PrintWords Go.Proofs.YtgopimjfoppkmaaDoorW.PrintLast

/-- The law, of any graph and any two numbers. -/
theorem DagBases (g : G) (a b : Int) : ∃ k, rectolaw31_DagBases.f k g a b = some true := Ev.rounds (by
  have four : Ev (fun k => (rectolaw31_four.f k).bind fun t354 => some t354) true := Ev.bind four_ev (Ev.now _)
  unfold rectolaw31_DagBases.f
  rcases long_or g with ⟨hg, _, hlg⟩ | h
  case inr => exact Ev.bind h (Ev.ite_pos rfl four)
  have hl := hg.len
  refine Ev.bind hlg (Ev.ite_neg (by decide) (Ev.bind (ref_ev hl) (Ev.bind (anc_ev hg a) (Ev.bind (base_ev hg a b) (Ev.bind (rcheck_ev hg) ?_)))))
  by_cases ha : In g a
  · refine Ev.ite_pos ha.2.2 (Ev.ite_neg (by have := ha.1; omega) ?_)
    rw [decide_eq_false (show ¬ a > (g.length : Int) by have := ha.2.1; omega), if_pos ha]
    refine Ev.step (fun k => by rw [rectolaw31_DagBases.j0]) (Ev.ite_neg (by decide) (Ev.bind (ranc_ev hg ha) (Ev.bind (ints_ev (a := ancL g a) (by have := ids_len (mkP g a) g.length; unfold ancL; omega)) (Ev.ite_pos rfl ?_))))
    by_cases hb : In g b
    · refine Ev.ite_neg (by have := hb.1; omega) ?_
      rw [decide_eq_false (show ¬ b > (g.length : Int) by have := hb.2.1; omega), if_pos ⟨ha, hb⟩]
      refine Ev.step (fun k => by rw [rectolaw31_DagBases.j1]) (Ev.ite_neg (by decide) (Ev.bind (rbase_ev hg ha hb) (Ev.ite_pos rfl (Ev.ite_pos ?_ four))))
      exact beq_self_eq_true _
    · rw [if_neg (fun z => hb z.2)]
      have no : Ev (fun k => rectolaw31_DagBases.j1 k a b (g.map cv) 0 false true) true := by
        refine Ev.step (fun k => by rw [rectolaw31_DagBases.j1]) ?_
        exact Ev.ite_pos rfl (Ev.ite_neg (by decide) (Ev.ite_pos rfl four))
      by_cases h1 : b < 1
      · exact Ev.ite_pos h1 no
      · refine Ev.ite_neg h1 ?_
        rw [decide_eq_true (show b > (g.length : Int) by
          rcases Int.lt_or_le (g.length : Int) b with z | z
          · exact z
          · exact absurd ⟨by omega, z, ha.2.2⟩ hb)]
        exact no
  · rw [if_neg ha, if_neg (fun z => ha z.1)]
    have no : Ev (fun k => rectolaw31_DagBases.j0 k g a b (g.map cv) [] 0 false true) true := by
      refine Ev.step (fun k => by rw [rectolaw31_DagBases.j0]) ?_
      exact Ev.ite_pos rfl (Ev.ite_pos rfl (Ev.ite_neg (by decide) (Ev.ite_pos rfl four)))
    by_cases hc : checkN g = 0
    · refine Ev.ite_pos hc ?_
      by_cases h1 : a < 1
      · exact Ev.ite_pos h1 no
      · refine Ev.ite_neg h1 ?_
        rw [decide_eq_true (show a > (g.length : Int) by
          rcases Int.lt_or_le (g.length : Int) a with z | z
          · exact z
          · exact absurd ⟨by omega, z, hc⟩ ha)]
        exact no
    · exact Ev.ite_neg hc no)
end Go.Proofs.YtgopimjfoppkmaaDoor.D
