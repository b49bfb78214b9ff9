/- UTF-8, plainly: what the bytes of a number are, and which character stands first: the program's functions and the reference's come to the same. -/
import Derived.Test.YtdoapeandigooaaDoorPPure0
import Derived.Test.YtdoapeandigooaaDoorP2
import Derived.Test.YtdoapeandigooaaDoorP4
import Derived.Test.YtdoapeandigooaaDoorP7
namespace Go.Proofs.YtdoapeandigooaaDoor.P
open Go.RowKit Go.Proofs.YtdoapeandigooaaDoorW.PrintWords Go.Proofs.YtdoapeandigooaaDoorW.PrintLast

/-- A character. -/
def isC (c : Int) : Bool := decide (0 ≤ c) && decide (c ≤ 1114111) && !(decide (55296 ≤ c) && decide (c ≤ 57343))
theorem isC_iff {c : Int} : isC c = true ↔ 0 ≤ c ∧ c ≤ 1114111 ∧ (c < 55296 ∨ 57343 < c) := by
  simp [isC]; omega
theorem is_f (c : Int) : utf_is.f c = some (isC c) := by
  unfold utf_is.f isC
  repeat' split
  all_goals (congr 1; rw [Bool.eq_iff_iff]; simp; omega)
theorem refIs_f (c : Int) : rectoref02_Is.f c = some (isC c) := by
  unfold rectoref02_Is.f isC
  repeat' split
  all_goals (congr 1; rw [Bool.eq_iff_iff]; simp; omega)
/-- The bytes of a character. -/
def encB (c : Int) : List Int := if c < 128 then [c] else if c < 2048 then [192 + c / 64, 128 + c % 64] else if c < 65536 then [224 + c / 4096, 128 + c / 64 % 64, 128 + c % 64] else [240 + c / 262144, 128 + c / 4096 % 64, 128 + c / 64 % 64, 128 + c % 64]
def orC (c : Int) : Int := if isC c = true then c else 65533
theorem orC_is (c : Int) : isC (orC c) = true := by unfold orC; split; · assumption
                                                    · decide
def szC (c : Int) : Int := if c < 128 then 1 else if c < 2048 then 2 else if c < 65536 then 3 else 4
theorem tab1 : (rd_T73 tab_0 1) = ⟨0, 0⟩ := rfl
theorem tab2 : (rd_T73 tab_0 2) = ⟨192, 128⟩ := rfl
theorem tab3 : (rd_T73 tab_0 3) = ⟨224, 2048⟩ := rfl
theorem tab4 : (rd_T73 tab_0 4) = ⟨240, 65536⟩ := rfl
theorem size_ev {c : Int} (h0 : 0 ≤ c) : Ev (fun k => utf_size.f k c) (szC c) := by
  unfold utf_size.f
  refine Ev.step (fun k => by rw [utf_size.l0]) ?_
  refine Ev.ite_pos (by decide) (Ev.ite_pos (by decide) ?_)
  rw [tab4]
  by_cases h4 : c < 65536
  · refine Ev.ite_pos h4 ?_
    rw [show wrap64 (4 - 1) = 3 by unfold wrap64; omega]
    refine Ev.step (fun k => by rw [utf_size.l0]) ?_
    refine Ev.ite_pos (by decide) (Ev.ite_pos (by decide) ?_)
    rw [tab3]
    by_cases h3 : c < 2048
    · refine Ev.ite_pos h3 ?_
      rw [show wrap64 (3 - 1) = 2 by unfold wrap64; omega]
      refine Ev.step (fun k => by rw [utf_size.l0]) ?_
      refine Ev.ite_pos (by decide) (Ev.ite_pos (by decide) ?_)
      rw [tab2]
      by_cases h2 : c < 128
      · refine Ev.ite_pos h2 ?_
        rw [show wrap64 (2 - 1) = 1 by unfold wrap64; omega]
        refine Ev.step (fun k => by rw [utf_size.l0]) ?_
        refine Ev.ite_pos (by decide) (Ev.ite_pos (by decide) ?_)
        rw [tab1]
        refine Ev.ite_neg (by simp; omega) ?_
        exact Ev.cast (Ev.now 1) (by unfold szC; rw [if_pos h2])
      · refine Ev.ite_neg h2 ?_
        exact Ev.cast (Ev.now 2) (by unfold szC; rw [if_neg h2, if_pos h3])
    · refine Ev.ite_neg h3 ?_
      exact Ev.cast (Ev.now 3) (by unfold szC; rw [if_neg (by omega), if_neg h3, if_pos h4])
  · refine Ev.ite_neg h4 ?_
    exact Ev.cast (Ev.now 4) (by unfold szC; rw [if_neg (by omega), if_neg (by omega), if_neg h4])
theorem m256 {x : Int} (h0 : 0 ≤ x) (h1 : x < 256) : x % 256 = x := Int.emod_eq_of_lt h0 h1
theorem wl1 : wrap64 (1 - 1) = 0 := by unfold wrap64; omega
theorem wl2 : wrap64 (2 - 1) = 1 := by unfold wrap64; omega
theorem wl3 : wrap64 (3 - 1) = 2 := by unfold wrap64; omega
theorem wl4 : wrap64 (4 - 1) = 3 := by unfold wrap64; omega
theorem low6 {x : Int} (h0 : 0 ≤ x) (h1 : x ≤ 1114111) : (Go.bits .or .i64 128 (Go.bits .and .i64 x 63)) % 256 = 128 + x % 64 := by
  rw [i64_and63 h0 (by omega), i64_or128 (by omega) (by omega)]
  omega
theorem bytes_in {c : Int} (h : isC c = true) : Ev (fun k => utf_Bytes.j0 k c) (strOfNums (encB c)) := by
  obtain ⟨h0, h1, h2⟩ := isC_iff.1 h
  refine Ev.step (fun k => by rw [utf_Bytes.j0]) ?_
  refine Ev.bind (size_ev h0) ?_
  by_cases a1 : c < 128
  · have e : szC c = 1 := by unfold szC; rw [if_pos a1]
    rw [e]
    refine Ev.ite_pos (by decide) (Ev.ite_pos (by decide) ?_)
    rw [wl1]
    refine Ev.step (fun k => by rw [utf_Bytes.l0]) ?_
    refine Ev.ite_neg (by decide) (Ev.ite_pos (by decide) (Ev.ite_pos (by decide) (Ev.ite_pos (by simp) ?_)))
    refine Ev.cast (Ev.now _) ?_
    rw [tab1, show encB c = [c] by unfold encB; rw [if_pos a1]]
    show strOfNums [(Go.bits .or .i64 0 c) % 256] = _
    rw [i64_or0 h0 a1, m256 h0 (by omega)]
  · by_cases a2 : c < 2048
    · have e : szC c = 2 := by unfold szC; rw [if_neg a1, if_pos a2]
      rw [e]
      refine Ev.ite_pos (by decide) (Ev.ite_pos (by decide) ?_)
      rw [wl2]
      refine Ev.step (fun k => by rw [utf_Bytes.l0]) ?_
      refine Ev.ite_pos (by decide) (Ev.ite_pos (by decide) (Ev.ite_pos (by simp) ?_))
      rw [low6 h0 h1]
      rw [wl1]
      refine Ev.step (fun k => by rw [utf_Bytes.l0]) ?_
      refine Ev.ite_neg (by decide) (Ev.ite_pos (by decide) (Ev.ite_pos (by decide) (Ev.ite_pos (by simp) ?_)))
      refine Ev.cast (Ev.now _) ?_
      rw [tab2, show encB c = [192 + c / 64, 128 + c % 64] by unfold encB; rw [if_neg a1, if_pos a2]]
      show strOfNums [(Go.bits .or .i64 192 (c / 64)) % 256, 128 + c % 64] = _
      rw [i64_or192 (by omega) (by omega), m256 (by omega) (by omega)]
    · by_cases a3 : c < 65536
      · have e : szC c = 3 := by unfold szC; rw [if_neg a1, if_neg a2, if_pos a3]
        rw [e]
        refine Ev.ite_pos (by decide) (Ev.ite_pos (by decide) ?_)
        rw [wl3]
        refine Ev.step (fun k => by rw [utf_Bytes.l0]) ?_
        refine Ev.ite_pos (by decide) (Ev.ite_pos (by decide) (Ev.ite_pos (by simp) ?_))
        rw [low6 h0 h1]
        rw [wl2]
        refine Ev.step (fun k => by rw [utf_Bytes.l0]) ?_
        refine Ev.ite_pos (by decide) (Ev.ite_pos (by decide) (Ev.ite_pos (by simp) ?_))
        rw [low6 (by omega) (by omega)]
        rw [wl1]
        refine Ev.step (fun k => by rw [utf_Bytes.l0]) ?_
        refine Ev.ite_neg (by decide) (Ev.ite_pos (by decide) (Ev.ite_pos (by decide) (Ev.ite_pos (by simp) ?_)))
        refine Ev.cast (Ev.now _) ?_
        rw [tab3, show encB c = [224 + c / 4096, 128 + c / 64 % 64, 128 + c % 64] by unfold encB; rw [if_neg a1, if_neg a2, if_pos a3]]
        show strOfNums [(Go.bits .or .i64 224 (c / 64 / 64)) % 256, 128 + c / 64 % 64, 128 + c % 64] = _
        rw [i64_or224 (by omega) (by omega), m256 (by omega) (by omega), show c / 64 / 64 = c / 4096 by omega]
      · have e : szC c = 4 := by unfold szC; rw [if_neg a1, if_neg a2, if_neg a3]
        rw [e]
        refine Ev.ite_pos (by decide) (Ev.ite_pos (by decide) ?_)
        rw [wl4]
        refine Ev.step (fun k => by rw [utf_Bytes.l0]) ?_
        refine Ev.ite_pos (by decide) (Ev.ite_pos (by decide) (Ev.ite_pos (by simp) ?_))
        rw [low6 h0 h1]
        rw [wl3]
        refine Ev.step (fun k => by rw [utf_Bytes.l0]) ?_
        refine Ev.ite_pos (by decide) (Ev.ite_pos (by decide) (Ev.ite_pos (by simp) ?_))
        rw [low6 (by omega) (by omega)]
        rw [wl2]
        refine Ev.step (fun k => by rw [utf_Bytes.l0]) ?_
        refine Ev.ite_pos (by decide) (Ev.ite_pos (by decide) (Ev.ite_pos (by simp) ?_))
        rw [low6 (by omega) (by omega)]
        rw [wl1]
        refine Ev.step (fun k => by rw [utf_Bytes.l0]) ?_
        refine Ev.ite_neg (by decide) (Ev.ite_pos (by decide) (Ev.ite_pos (by decide) (Ev.ite_pos (by simp) ?_)))
        refine Ev.cast (Ev.now _) ?_
        rw [tab4, show encB c = [240 + c / 262144, 128 + c / 4096 % 64, 128 + c / 64 % 64, 128 + c % 64] by unfold encB; rw [if_neg a1, if_neg a2, if_neg a3]]
        show strOfNums [(Go.bits .or .i64 240 (c / 64 / 64 / 64)) % 256, 128 + c / 64 / 64 % 64, 128 + c / 64 % 64, 128 + c % 64] = _
        rw [i64_or240 (by omega) (by omega), m256 (by omega) (by omega), show c / 64 / 64 / 64 = c / 262144 by omega, show c / 64 / 64 = c / 4096 by omega]
/-- The program's bytes of a number. -/
theorem bytes_ev (c : Int) : Ev (fun k => utf_Bytes.f k c) (strOfNums (encB (orC c))) := by
  unfold utf_Bytes.f
  rw [is_f]
  by_cases h : isC c = true
  · refine Ev.congr (f := fun k => utf_Bytes.j0 k c) (fun k => by rw [h]; rfl) ?_
    rw [show orC c = c by unfold orC; rw [if_pos h]]
    exact bytes_in h
  · refine Ev.congr (f := fun k => utf_Bytes.j0 k 65533) (fun k => by rw [Bool.eq_false_iff.2 h]; rfl) ?_
    rw [show orC c = 65533 by unfold orC; rw [if_neg h]]
    exact bytes_in (by decide)
theorem refBytes_is {c : Int} (h : isC c = true) (k : Nat) : rectoref02_Bytes.f (k + 1) c = some (strOfNums (encB c)) := by
  obtain ⟨h0, h1, h2⟩ := isC_iff.1 h
  rw [rectoref02_Bytes.f, refIs_f, h]
  simp only [Option.bind_some, if_true]
  have d (n : Int) (hn : 0 < n) (hn2 : n ≤ 262144) : wrap64 (Int.tdiv c n) = c / n := by
    rw [Int.tdiv_eq_ediv_of_nonneg h0]
    have := Int.ediv_nonneg h0 (Int.le_of_lt hn)
    have := Int.ediv_le_self n h0
    exact w64 (by omega) (by omega)
  have m (x : Int) (hx : 0 ≤ x) : Int.tmod x 64 = x % 64 := Int.tmod_eq_emod_of_nonneg hx
  by_cases a1 : c < 128
  · rw [if_pos a1, show encB c = [c] by unfold encB; rw [if_pos a1], m256 h0 (by omega)]
  · rw [if_neg a1]
    by_cases a2 : c < 2048
    · rw [if_pos a2, show encB c = [192 + c / 64, 128 + c % 64] by unfold encB; rw [if_neg a1, if_pos a2], d 64 (by decide) (by decide), m c h0, w64 (by omega) (by omega), w64 (by omega) (by omega), m256 (by omega) (by omega), m256 (by omega) (by omega)]
    · rw [if_neg a2]
      by_cases a3 : c < 65536
      · rw [if_pos a3, show encB c = [224 + c / 4096, 128 + c / 64 % 64, 128 + c % 64] by unfold encB; rw [if_neg a1, if_neg a2, if_pos a3], d 4096 (by decide) (by decide), d 64 (by decide) (by decide), m c h0, m (c / 64) (by omega), w64 (by omega) (by omega), w64 (by omega) (by omega), w64 (by omega) (by omega), m256 (by omega) (by omega), m256 (by omega) (by omega), m256 (by omega) (by omega)]
      · rw [if_neg a3, show encB c = [240 + c / 262144, 128 + c / 4096 % 64, 128 + c / 64 % 64, 128 + c % 64] by unfold encB; rw [if_neg a1, if_neg a2, if_neg a3], d 262144 (by decide) (by decide), d 4096 (by decide) (by decide), d 64 (by decide) (by decide), m c h0, m (c / 64) (by omega), m (c / 4096) (by omega), w64 (by omega) (by omega), w64 (by omega) (by omega), w64 (by omega) (by omega), w64 (by omega) (by omega), m256 (by omega) (by omega), m256 (by omega) (by omega), m256 (by omega) (by omega), m256 (by omega) (by omega)]
/-- The reference's bytes of a number. -/
theorem refBytes_ev (c : Int) : Ev (fun k => rectoref02_Bytes.f k c) (strOfNums (encB (orC c))) := by
  by_cases h : isC c = true
  · rw [show orC c = c by unfold orC; rw [if_pos h]]
    exact Ev.step (fun k => refBytes_is h k) (Ev.now _)
  · rw [show orC c = 65533 by unfold orC; rw [if_neg h]]
    refine Ev.step (fun k => by rw [rectoref02_Bytes.f, refIs_f, Bool.eq_false_iff.2 h]) ?_
    refine Ev.step (f := fun _ => some (strOfNums (encB 65533))) (fun k => ?_) (Ev.now _)
    show ((rectoref02_Bytes.f (k + 1) 65533).bind fun t => some t) = _
    rw [refBytes_is (by decide)]
    rfl
end Go.Proofs.YtdoapeandigooaaDoor.P
