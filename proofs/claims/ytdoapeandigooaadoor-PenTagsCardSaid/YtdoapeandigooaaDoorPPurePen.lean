/- Tags, plainly: names, what is right, where a text stands in another one. -/
import Derived.Test.YtdoapeandigooaaDoorPPureEsc
import Derived.Test.YtdoapeandigooaaDoorPPureRefClean
import Derived.Test.YtdoapeandigooaaDoorPPen
import Derived.Test.YtdoapeandigooaaDoorPNote
import Derived.Test.YtdoapeandigooaaDoorPOpen
import Derived.Test.YtdoapeandigooaaDoorP6
import Derived.Test.YtdoapeandigooaaDoorP8
namespace Go.Proofs.YtdoapeandigooaaDoor.P
open Go.RowKit Go.Proofs.YtdoapeandigooaaDoorW.PrintWords Go.Proofs.YtdoapeandigooaaDoorW.PrintLast
set_option linter.unusedSimpArgs false

theorem all8_bl {p : UInt8 → Bool} {q : Int → Bool} (h : ∀ b : UInt8, p b = q (b.toNat : Int)) (s : ByteArray) : all8 p s = (bl s).all q := by
  unfold all8 bl
  rw [List.all_map]
  congr 1
  funext b
  exact h b
def smI (b : Int) : Bool := decide (97 ≤ b) && decide (b ≤ 122)
def nmI (b : Int) : Bool := smI b || (decide (48 ≤ b) && decide (b ≤ 58)) || decide (b = 45)
def gdI (b : Int) : Bool := decide (b ≠ 0) && decide (b ≠ 13)
theorem smI_iff {b : Int} : smI b = true ↔ 97 ≤ b ∧ b ≤ 122 := by unfold smI; simp
theorem nmI_iff {b : Int} : nmI b = true ↔ (97 ≤ b ∧ b ≤ 122) ∨ (48 ≤ b ∧ b ≤ 58) ∨ b = 45 := by unfold nmI smI; simp; omega
theorem gdI_iff {b : Int} : gdI b = true ↔ b ≠ 0 ∧ b ≠ 13 := by unfold gdI; simp
theorem nm_bl (s : ByteArray) : all8 nm8 s = (bl s).all nmI := all8_bl (fun b => by rw [Bool.eq_iff_iff, nmI_iff]; unfold nm8; simp; omega) s
theorem gd_bl (s : ByteArray) : all8 gd8 s = (bl s).all gdI := all8_bl (fun b => by rw [Bool.eq_iff_iff, gdI_iff]; unfold gd8; simp; omega) s
theorem name_f (s : ByteArray) : pen_Name.f s = some (name8 s) := rfl
theorem name_nm {s : ByteArray} (h : name8 s = true) : s.size ≤ 24 ∧ (bl s).all nmI = true := by
  unfold name8 at h
  split at h
  · cases h
  · split at h
    · rename_i h24
      split at h
      · rw [nm_bl] at h; exact ⟨h24, h⟩
      · cases h
    · cases h
theorem rname_l {s : ByteArray} (hs : s.size ≤ 100000) : ∀ d i : Nat, d + i = s.size → 1 ≤ i → Ev (fun k => rectoref06_Name.l0 k s (i : Int)) (((bl s).drop i).all nmI && decide (s.size ≤ 24))
  | 0, i, h, h1 => by
    refine Ev.step (fun k => by rw [rectoref06_Name.l0]) (Ev.ite_neg (by omega) (Ev.ite_pos (by omega) (Ev.cast (Ev.now _) ?_)))
    rw [List.drop_eq_nil_of_le (by rw [bl_length]; omega), List.all_nil, Bool.true_and, Bool.eq_iff_iff, decide_eq_true_eq, decide_eq_true_eq]
    omega
  | d + 1, i, h, h1 => by
    have hlt : i < s.size := by omega
    have e1 : wrap64 ((i : Int) + 1) = ((i + 1 : Nat) : Int) := by rw [w64 (by omega) (by omega)]; rfl
    refine Ev.step (fun k => by rw [rectoref06_Name.l0]) ?_
    rw [e1, bl_at hlt, List.all_cons]
    have next := rname_l hs d (i + 1) (by omega) (by omega)
    have yes : nmI (bt s (i : Int)) = true → Ev (fun k => rectoref06_Name.l0 k s ((i + 1 : Nat) : Int)) (nmI (bt s (i : Int)) && ((bl s).drop (i + 1)).all nmI && decide (s.size ≤ 24)) := fun q => by rw [q, Bool.true_and]; exact next
    have no : ¬ nmI (bt s (i : Int)) = true → Ev (fun _ => some false) (nmI (bt s (i : Int)) && ((bl s).drop (i + 1)).all nmI && decide (s.size ≤ 24)) := fun q => by rw [Bool.eq_false_iff.2 q, Bool.false_and, Bool.false_and]; exact Ev.now _
    rw [nmI_iff] at yes no
    refine Ev.ite_pos (by omega) (Ev.ite_pos (by omega) ?_)
    generalize bt s (i : Int) = b at yes no ⊢
    by_cases h97 : b ≥ 97
    · refine Ev.ite_pos h97 (Ev.ite_pos (by omega) (Ev.ite_neg (by omega) ?_))
      by_cases h122 : b ≤ 122
      · exact Ev.ite_pos h122 (yes (by omega))
      · exact Ev.ite_neg h122 (Ev.ite_neg (by omega) (Ev.ite_neg (by omega) (no (by omega))))
    · refine Ev.ite_neg h97 ?_
      by_cases h48 : b ≥ 48
      · refine Ev.ite_pos h48 ?_
        by_cases h58 : b ≤ 58
        · exact Ev.ite_pos h58 (Ev.ite_neg (by omega) (yes (by omega)))
        · exact Ev.ite_neg h58 (Ev.ite_neg (by omega) (Ev.ite_neg (by omega) (no (by omega))))
      · refine Ev.ite_neg h48 (Ev.ite_neg (by omega) ?_)
        by_cases h45 : b = 45
        · exact Ev.ite_pos h45 (yes (by omega))
        · exact Ev.ite_neg h45 (no (by omega))
theorem rname_ev {s : ByteArray} (hs : s.size ≤ 100000) : Ev (fun k => rectoref06_Name.f k s) (name8 s) := by
  unfold rectoref06_Name.f
  by_cases h0 : s.size = 0
  · rw [show name8 s = false by unfold name8; rw [if_pos h0]]
    exact Ev.step (fun k => by rw [rectoref06_Name.l0]) (Ev.ite_neg (by omega) (Ev.ite_neg (by omega) (Ev.now _)))
  have hb := bl_at (s := s) (i := 0) (by omega)
  rw [List.drop_zero] at hb
  have next := rname_l hs (s.size - 1) 1 (by omega) (Nat.le_refl _)
  have hn : name8 s = (smI (bt s 0) && (((bl s).drop 1).all nmI && decide (s.size ≤ 24))) := by
    unfold name8
    have hall : (bl s).all nmI = (nmI (bt s 0) && ((bl s).drop 1).all nmI) := by
      conv => lhs; rw [hb, List.all_cons]
      rfl
    rw [if_neg h0, nm_bl, hall]
    by_cases h24 : s.size ≤ 24
    · rw [if_pos h24, decide_eq_true h24, Bool.and_true]
      by_cases q : 97 ≤ bt s 0 ∧ bt s 0 ≤ 122
      · rw [if_pos q, smI_iff.2 q, nmI_iff.2 (Or.inl q)]
      · rw [if_neg q, Bool.eq_false_iff.2 (fun z => q (smI_iff.1 z))]; rfl
    · rw [if_neg h24, decide_eq_false h24, Bool.and_false, Bool.and_false]
  have e1 : wrap64 ((0 : Int) + 1) = ((1 : Nat) : Int) := by rw [w64 (by omega) (by omega)]; rfl
  rw [hn]
  refine Ev.step (fun k => by rw [rectoref06_Name.l0]) ?_
  rw [e1]
  have yes : (97 ≤ bt s 0 ∧ bt s 0 ≤ 122) → Ev (fun k => rectoref06_Name.l0 k s ((1 : Nat) : Int)) (smI (bt s 0) && (((bl s).drop 1).all nmI && decide (s.size ≤ 24))) := fun q => by rw [smI_iff.2 q, Bool.true_and]; exact next
  have no : ¬ (97 ≤ bt s 0 ∧ bt s 0 ≤ 122) → Ev (fun _ => some false) (smI (bt s 0) && (((bl s).drop 1).all nmI && decide (s.size ≤ 24))) := fun q => by rw [Bool.eq_false_iff.2 (fun z => q (smI_iff.1 z)), Bool.false_and]; exact Ev.now _
  refine Ev.ite_pos (by omega) (Ev.ite_pos (by omega) ?_)
  generalize bt s 0 = b at yes no ⊢
  by_cases h97 : b ≥ 97
  · refine Ev.ite_pos h97 (Ev.ite_pos (by omega) (Ev.ite_neg (by omega) ?_))
    by_cases h122 : b ≤ 122
    · exact Ev.ite_pos h122 (yes (by omega))
    · exact Ev.ite_neg h122 (Ev.ite_pos rfl (no (by omega)))
  · refine Ev.ite_neg h97 ?_
    by_cases h48 : b ≥ 48
    · refine Ev.ite_pos h48 ?_
      by_cases h58 : b ≤ 58
      · exact Ev.ite_pos h58 (Ev.ite_pos rfl (no (by omega)))
      · exact Ev.ite_neg h58 (Ev.ite_pos rfl (no (by omega)))
    · exact Ev.ite_neg h48 (Ev.ite_pos rfl (no (by omega)))
/-- What is right, without what is never read. -/
def goodB (s : ByteArray) : Bool := (bl s).all gdI && rightL (bl s)
theorem good_ev {s : ByteArray} (hs : s.size ≤ 100000) : Ev (fun k => pen_Good.f k s) (goodB s) := by
  unfold pen_Good.f goodB
  refine Ev.bind (right_ev s) ?_
  by_cases q : rightL (bl s) = true
  · refine Ev.ite_pos q (Ev.ite_pos (by omega) (Ev.cast (Ev.now _) ?_))
    rw [gd_bl, q, Bool.and_true]
  · refine Ev.ite_neg q (Ev.cast (Ev.now _) ?_)
    rw [Bool.eq_false_iff.2 q, Bool.and_false]
theorem rgood_l {s : ByteArray} (hs : s.size ≤ 100000) : ∀ d i : Nat, d + i = s.size → Ev (fun k => rectoref06_Good.l0 k s (i : Int)) (((bl s).drop i).all gdI && rightL (bl s))
  | 0, i, h => by
    refine Ev.step (fun k => by rw [rectoref06_Good.l0]) (Ev.ite_neg (by omega) (Ev.bind (of_ev (by omega)) (Ev.cast (Ev.now _) ?_)))
    rw [List.drop_eq_nil_of_le (by rw [bl_length]; omega), List.all_nil, Bool.true_and]
  | d + 1, i, h => by
    have hlt : i < s.size := by omega
    have e1 : wrap64 ((i : Int) + 1) = ((i + 1 : Nat) : Int) := by rw [w64 (by omega) (by omega)]; rfl
    have next := rgood_l hs d (i + 1) (by omega)
    refine Ev.step (fun k => by rw [rectoref06_Good.l0]) ?_
    rw [e1, bl_at hlt, List.all_cons]
    refine Ev.ite_pos (by omega) (Ev.ite_pos (by omega) ?_)
    by_cases q : gdI (bt s (i : Int)) = true
    · obtain ⟨h0, h13⟩ := gdI_iff.1 q
      rw [q, Bool.true_and]
      exact Ev.ite_neg h0 (Ev.ite_neg h13 next)
    · rw [Bool.eq_false_iff.2 q, Bool.false_and, Bool.false_and]
      by_cases h0 : bt s (i : Int) = 0
      · exact Ev.ite_pos h0 (Ev.now _)
      · refine Ev.ite_neg h0 (Ev.ite_pos ?_ (Ev.now _))
        rw [gdI_iff] at q
        omega
theorem rgood_ev {s : ByteArray} (hs : s.size ≤ 100000) : Ev (fun k => rectoref06_Good.f k s) (goodB s) := rgood_l hs s.size 0 rfl
theorem link_ev : Ev (fun k => rectolaw06_link.f k) true := Ev.of (k := 64) rectolaw06_link.mono (by kernel_rfl)
end Go.Proofs.YtdoapeandigooaaDoor.P
