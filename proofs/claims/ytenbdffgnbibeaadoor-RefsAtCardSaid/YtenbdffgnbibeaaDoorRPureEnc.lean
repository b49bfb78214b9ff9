/- UTF-8, plainly: there and back: what stands first in a character's bytes, with anything behind them. -/
import Derived.Test.YtenbdffgnbibeaaDoorRPureAt
import Derived.Test.YtenbdffgnbibeaaDoorR10
namespace Go.Proofs.YtenbdffgnbibeaaDoor.R
open Go.RowKit Go.Proofs.YtenbdffgnbibeaaDoorW.PrintWords Go.Proofs.YtenbdffgnbibeaaDoorW.PrintLast

theorem dec_enc {c : Int} (h : isC c = true) (t : List Int) : decL (encB c ++ t) = (c, ((encB c).length : Int), true) := by
  have hn : 0 ≤ (encB c ++ t).getD 0 (-1) := by
    have hr := encB_range h
    have hl := (encB_length c).2
    rcases hq : encB c with _ | ⟨x, l⟩
    · rw [hq] at hl; simp at hl
    · rw [hq] at hr
      have := hr x (by simp)
      simp
      omega
  obtain ⟨h0, h1, h2⟩ := isC_iff.1 h
  have key : cOf ((encB c ++ t).getD 0 (-1)) ((encB c ++ t).getD 1 (-1)) ((encB c ++ t).getD 2 (-1)) ((encB c ++ t).getD 3 (-1)) = c := by
    by_cases a1 : c < 128
    · rw [show encB c = [c] by unfold encB; rw [if_pos a1]]
      show cOf c _ _ _ = c
      unfold cOf
      rw [if_pos a1]
    by_cases a2 : c < 2048
    · rw [show encB c = [192 + c / 64, 128 + c % 64] by unfold encB; rw [if_neg a1, if_pos a2]]
      show cOf (192 + c / 64) (128 + c % 64) _ _ = c
      unfold cOf
      rw [if_neg (by omega), if_pos ⟨by omega, by omega, ct_iff.2 (by omega)⟩]
      omega
    by_cases a3 : c < 65536
    · rw [show encB c = [224 + c / 4096, 128 + c / 64 % 64, 128 + c % 64] by unfold encB; rw [if_neg a1, if_neg a2, if_pos a3]]
      show cOf (224 + c / 4096) (128 + c / 64 % 64) (128 + c % 64) _ = c
      unfold cOf
      rw [if_neg (by omega), if_neg (by omega), if_pos ⟨by omega, by omega, ct_iff.2 (by omega), ct_iff.2 (by omega)⟩]
      omega
    · rw [show encB c = [240 + c / 262144, 128 + c / 4096 % 64, 128 + c / 64 % 64, 128 + c % 64] by unfold encB; rw [if_neg a1, if_neg a2, if_neg a3]]
      show cOf (240 + c / 262144) (128 + c / 4096 % 64) (128 + c / 64 % 64) (128 + c % 64) = c
      unfold cOf
      rw [if_neg (by omega), if_neg (by omega), if_neg (by omega), if_pos ⟨by omega, by omega, ct_iff.2 (by omega), ct_iff.2 (by omega), ct_iff.2 (by omega)⟩]
      omega
  rw [← st_cOf hn, key]
  unfold st
  rw [if_pos ⟨h, by rw [List.take_left]⟩]
/-- How much is taken: at least one byte, and no more than there are. -/
theorem dec_len {l : List Int} (h : l ≠ []) : 1 ≤ (decL l).2.1 ∧ (decL l).2.1 ≤ l.length ∧ (decL l).2.1 ≤ 4 := by
  have hp := List.length_pos_iff.2 h
  have g : ∀ i : Nat, ct (l.getD i (-1)) = true → i < l.length := fun i hi => by
    rcases Nat.lt_or_ge i l.length with q | q
    · exact q
    · rw [getD_lt q] at hi; exact absurd hi ct_m1
  have hb : (1 : Int) ≤ bad.2.1 ∧ bad.2.1 ≤ l.length ∧ bad.2.1 ≤ 4 := ⟨by decide, by show (1 : Int) ≤ _; omega, by decide⟩
  unfold decL dec
  repeat' split
  all_goals first | exact hb | dsimp only
  · rename_i c1 _; have := g 1 c1; omega
  · rename_i c1 c2 _; have := g 2 c2; omega
  · rename_i c1 c2 c3 _; have := g 3 c3; omega
/-- It is a character, always. -/
theorem dec_isC {l : List Int} (h0 : 0 ≤ l.getD 0 (-1)) : isC (decL l).1 = true := by
  rw [← st_cOf h0]
  unfold st
  split
  · rename_i h; exact h.1
  · decide
/-- What is told as right is a character's bytes. -/
theorem dec_true {l : List Int} (h0 : 0 ≤ l.getD 0 (-1)) (h : (decL l).2.2 = true) : l.take (decL l).2.1.toNat = encB (decL l).1 ∧ (decL l).2.1 = ((encB (decL l).1).length : Int) := by
  rw [← st_cOf h0] at h ⊢
  generalize cOf (l.getD 0 (-1)) (l.getD 1 (-1)) (l.getD 2 (-1)) (l.getD 3 (-1)) = c at *
  unfold st at h ⊢
  split at h
  · rename_i q
    rw [if_pos q]
    exact ⟨by show l.take ((encB c).length : Int).toNat = _; rw [Int.toNat_natCast]; exact q.2, rfl⟩
  · cases h
theorem dec_false {l : List Int} (h0 : 0 ≤ l.getD 0 (-1)) (h : (decL l).2.2 = false) : decL l = bad := by
  rw [← st_cOf h0] at h ⊢
  generalize cOf (l.getD 0 (-1)) (l.getD 1 (-1)) (l.getD 2 (-1)) (l.getD 3 (-1)) = c at *
  unfold st at h ⊢
  split at h
  · cases h
  · rename_i q
    rw [if_neg q]
end Go.Proofs.YtenbdffgnbibeaaDoor.R
