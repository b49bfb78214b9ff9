/- CharsKinds, plainly: of which kind each byte is. -/
import Derived.Test.YtdoapeandigooaaDoorCPureChars
import Derived.Test.YtdoapeandigooaaDoorC7
namespace Go.Proofs.YtdoapeandigooaaDoor.C
open Go.RowKit Go.Proofs.YtdoapeandigooaaDoorW.PrintWords Go.Proofs.YtdoapeandigooaaDoorW.PrintLast

theorem CharsKinds : rectolaw03_CharsKinds.Pure := fun b hb => Ev.rounds (by
  have _ := hb
  unfold rectolaw03_CharsKinds.f
  obtain ⟨d, hd⟩ : ∃ d, chars_Digit.f b = some d := by unfold chars_Digit.f; split <;> exact ⟨_, rfl⟩
  have hd' : rectoref03_Digit.f b = some d := hd
  exact Ev.bind (Ev.pure fun _ => space_f b) (Ev.bind (Ev.pure fun _ => rspace_f b) (Ev.ite_pos (by simp) (Ev.bind (Ev.pure fun _ => letter_f b) (Ev.bind (Ev.pure fun _ => rletter_f b) (Ev.ite_pos (by simp) (Ev.bind (Ev.pure fun _ => hd) (Ev.bind (Ev.pure fun _ => hd') (Ev.ite_pos (by simp) (Ev.bind ends_ev (Ev.now _)))))))))))
end Go.Proofs.YtdoapeandigooaaDoor.C
