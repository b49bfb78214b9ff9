/- Tags, plainly: names, what is right, where a text stands in another one. -/
import Derived.Test.YtdoapeandigooaaDoorPPureEsc
import Derived.Test.YtdoapeandigooaaDoorPPureLow
import Derived.Test.YtdoapeandigooaaDoorPPureRefClean
import Derived.Test.YtdoapeandigooaaDoorPPen
import Derived.Test.YtdoapeandigooaaDoorPNote
import Derived.Test.YtdoapeandigooaaDoorPOpen
import Derived.Test.YtdoapeandigooaaDoorP10
import Derived.Test.YtdoapeandigooaaDoorP11
import Derived.Test.YtdoapeandigooaaDoorP5
import Derived.Test.YtdoapeandigooaaDoorP6
namespace Go.Proofs.YtdoapeandigooaaDoor.P
open Go.RowKit Go.Proofs.YtdoapeandigooaaDoorW.PrintWords Go.Proofs.YtdoapeandigooaaDoorW.PrintLast
set_option linter.unusedSimpArgs false

theorem all8_bl {p : UInt8 → Bool} {q : Int → Bool} (h : ∀ b : UInt8, p b = q (b.toNat : Int)) (s : ByteArray) : all8 p s = (bl s).all q := by
  unfold all8 bl
  rw [List.all_map]
  congr 1
  funext b
  exact h b
def smI (b : Int) : Bool := decide (97 ≤ b) && decide (b ≤ 122)
def nmI (b : Int) : Bool := smI b || (decide (48 ≤ b) && decide (b ≤ 58)) || decide (b = 45)
def gdI (b : Int) : Bool := decide (b ≠ 0) && decide (b ≠ 13)
theorem smI_iff {b : Int} : smI b = true ↔ 97 ≤ b ∧ b ≤ 122 := by unfold smI; simp
theorem nmI_iff {b : Int} : nmI b = true ↔ (97 ≤ b ∧ b ≤ 122) ∨ (48 ≤ b ∧ b ≤ 58) ∨ b = 45 := by unfold nmI smI; simp; omega
theorem gdI_iff {b : Int} : gdI b = true ↔ b ≠ 0 ∧ b ≠ 13 := by unfold gdI; simp
theorem nm_bl (s : ByteArray) : all8 nm8 s = (bl s).all nmI := all8_bl (fun b => by rw [Bool.eq_iff_iff, nmI_iff]; unfold nm8; simp; omega) s
theorem gd_bl (s : ByteArray) : all8 gd8 s = (bl s).all gdI := all8_bl (fun b => by rw [Bool.eq_iff_iff, gdI_iff]; unfold gd8; simp; omega) s
theorem name_f (s : ByteArray) : pen_Name.f s = some (name8 s) := rfl
theorem name_nm {s : ByteArray} (h : name8 s = true) : s.size ≤ 24 ∧ (bl s).all nmI = true := by
  unfold name8 at h
  split at h
  · cases h
  · split at h
    · rename_i h24
      split at h
      · rw [nm_bl] at h; exact ⟨h24, h⟩
      · cases h
    · cases h
theorem rname_l {s : ByteArray} (hs : s.size ≤ 100000) : ∀ d i : Nat, d + i = s.size → 1 ≤ i → Ev (fun k => rectoref06_Name.l0 k s (i : Int)) (((bl s).drop i).all nmI && decide (s.size ≤ 24))
  | 0, i, h, h1 => by
    refine Ev.step (fun k => by rw [rectoref06_Name.l0]) (Ev.ite_neg (by omega) (Ev.ite_pos (by omega) (Ev.cast (Ev.now _) ?_)))
    rw [List.drop_eq_nil_of_le (by rw [bl_length]; omega), List.all_nil, Bool.true_and, Bool.eq_iff_iff, decide_eq_true_eq, decide_eq_true_eq]
    omega
  | d + 1, i, h, h1 => by
    have hlt : i < s.size := by omega
    have e1 : wrap64 ((i : Int) + 1) = ((i + 1 : Nat) : Int) := by rw [w64 (by omega) (by omega)]; rfl
    refine Ev.step (fun k => by rw [rectoref06_Name.l0]) ?_
    rw [e1, bl_at hlt, List.all_cons]
    have next := rname_l hs d (i + 1) (by omega) (by omega)
    have yes : nmI (bt s (i : Int)) = true → Ev (fun k => rectoref06_Name.l0 k s ((i + 1 : Nat) : Int)) (nmI (bt s (i : Int)) && ((bl s).drop (i + 1)).all nmI && decide (s.size ≤ 24)) := fun q => by rw [q, Bool.true_and]; exact next
    have no : ¬ nmI (bt s (i : Int)) = true → Ev (fun _ => some false) (nmI (bt s (i : Int)) && ((bl s).drop (i + 1)).all nmI && decide (s.size ≤ 24)) := fun q => by rw [Bool.eq_false_iff.2 q, Bool.false_and, Bool.false_and]; exact Ev.now _
    rw [nmI_iff] at yes no
    refine Ev.ite_pos (by omega) (Ev.ite_pos (by omega) ?_)
    generalize bt s (i : Int) = b at yes no ⊢
    by_cases h97 : b ≥ 97
    · refine Ev.ite_pos h97 (Ev.ite_pos (by omega) (Ev.ite_neg (by omega) ?_))
      by_cases h122 : b ≤ 122
      · exact Ev.ite_pos h122 (yes (by omega))
      · exact Ev.ite_neg h122 (Ev.ite_neg (by omega) (Ev.ite_neg (by omega) (no (by omega))))
    · refine Ev.ite_neg h97 ?_
      by_cases h48 : b ≥ 48
      · refine Ev.ite_pos h48 ?_
        by_cases h58 : b ≤ 58
        · exact Ev.ite_pos h58 (Ev.ite_neg (by omega) (yes (by omega)))
        · exact Ev.ite_neg h58 (Ev.ite_neg (by omega) (Ev.ite_neg (by omega) (no (by omega))))
      · refine Ev.ite_neg h48 (Ev.ite_neg (by omega) ?_)
        by_cases h45 : b = 45
        · exact Ev.ite_pos h45 (yes (by omega))
        · exact Ev.ite_neg h45 (no (by omega))
theorem rname_ev {s : ByteArray} (hs : s.size ≤ 100000) : Ev (fun k => rectoref06_Name.f k s) (name8 s) := by
  unfold rectoref06_Name.f
  by_cases h0 : s.size = 0
  · rw [show name8 s = false by unfold name8; rw [if_pos h0]]
    exact Ev.step (fun k => by rw [rectoref06_Name.l0]) (Ev.ite_neg (by omega) (Ev.ite_neg (by omega) (Ev.now _)))
  have hb := bl_at (s := s) (i := 0) (by omega)
  rw [List.drop_zero] at hb
  have next := rname_l hs (s.size - 1) 1 (by omega) (Nat.le_refl _)
  have hn : name8 s = (smI (bt s 0) && (((bl s).drop 1).all nmI && decide (s.size ≤ 24))) := by
    unfold name8
    have hall : (bl s).all nmI = (nmI (bt s 0) && ((bl s).drop 1).all nmI) := by
      conv => lhs; rw [hb, List.all_cons]
      rfl
    rw [if_neg h0, nm_bl, hall]
    by_cases h24 : s.size ≤ 24
    · rw [if_pos h24, decide_eq_true h24, Bool.and_true]
      by_cases q : 97 ≤ bt s 0 ∧ bt s 0 ≤ 122
      · rw [if_pos q, smI_iff.2 q, nmI_iff.2 (Or.inl q)]
      · rw [if_neg q, Bool.eq_false_iff.2 (fun z => q (smI_iff.1 z))]; rfl
    · rw [if_neg h24, decide_eq_false h24, Bool.and_false, Bool.and_false]
  have e1 : wrap64 ((0 : Int) + 1) = ((1 : Nat) : Int) := by rw [w64 (by omega) (by omega)]; rfl
  rw [hn]
  refine Ev.step (fun k => by rw [rectoref06_Name.l0]) ?_
  rw [e1]
  have yes : (97 ≤ bt s 0 ∧ bt s 0 ≤ 122) → Ev (fun k => rectoref06_Name.l0 k s ((1 : Nat) : Int)) (smI (bt s 0) && (((bl s).drop 1).all nmI && decide (s.size ≤ 24))) := fun q => by rw [smI_iff.2 q, Bool.true_and]; exact next
  have no : ¬ (97 ≤ bt s 0 ∧ bt s 0 ≤ 122) → Ev (fun _ => some false) (smI (bt s 0) && (((bl s).drop 1).all nmI && decide (s.size ≤ 24))) := fun q => by rw [Bool.eq_false_iff.2 (fun z => q (smI_iff.1 z)), Bool.false_and]; exact Ev.now _
  refine Ev.ite_pos (by omega) (Ev.ite_pos (by omega) ?_)
  generalize bt s 0 = b at yes no ⊢
  by_cases h97 : b ≥ 97
  · refine Ev.ite_pos h97 (Ev.ite_pos (by omega) (Ev.ite_neg (by omega) ?_))
    by_cases h122 : b ≤ 122
    · exact Ev.ite_pos h122 (yes (by omega))
    · exact Ev.ite_neg h122 (Ev.ite_pos rfl (no (by omega)))
  · refine Ev.ite_neg h97 ?_
    by_cases h48 : b ≥ 48
    · refine Ev.ite_pos h48 ?_
      by_cases h58 : b ≤ 58
      · exact Ev.ite_pos h58 (Ev.ite_pos rfl (no (by omega)))
      · exact Ev.ite_neg h58 (Ev.ite_pos rfl (no (by omega)))
    · exact Ev.ite_neg h48 (Ev.ite_pos rfl (no (by omega)))
/-- What is right, without what is never read. -/
def goodB (s : ByteArray) : Bool := (bl s).all gdI && rightL (bl s)
theorem good_ev {s : ByteArray} (hs : s.size ≤ 100000) : Ev (fun k => pen_Good.f k s) (goodB s) := by
  unfold pen_Good.f goodB
  refine Ev.bind (right_ev s) ?_
  by_cases q : rightL (bl s) = true
  · refine Ev.ite_pos q (Ev.ite_pos (by omega) (Ev.cast (Ev.now _) ?_))
    rw [gd_bl, q, Bool.and_true]
  · refine Ev.ite_neg q (Ev.cast (Ev.now _) ?_)
    rw [Bool.eq_false_iff.2 q, Bool.and_false]
theorem rgood_l {s : ByteArray} (hs : s.size ≤ 100000) : ∀ d i : Nat, d + i = s.size → Ev (fun k => rectoref06_Good.l0 k s (i : Int)) (((bl s).drop i).all gdI && rightL (bl s))
  | 0, i, h => by
    refine Ev.step (fun k => by rw [rectoref06_Good.l0]) (Ev.ite_neg (by omega) (Ev.bind (of_ev (by omega)) (Ev.cast (Ev.now _) ?_)))
    rw [List.drop_eq_nil_of_le (by rw [bl_length]; omega), List.all_nil, Bool.true_and]
  | d + 1, i, h => by
    have hlt : i < s.size := by omega
    have e1 : wrap64 ((i : Int) + 1) = ((i + 1 : Nat) : Int) := by rw [w64 (by omega) (by omega)]; rfl
    have next := rgood_l hs d (i + 1) (by omega)
    refine Ev.step (fun k => by rw [rectoref06_Good.l0]) ?_
    rw [e1, bl_at hlt, List.all_cons]
    refine Ev.ite_pos (by omega) (Ev.ite_pos (by omega) ?_)
    by_cases q : gdI (bt s (i : Int)) = true
    · obtain ⟨h0, h13⟩ := gdI_iff.1 q
      rw [q, Bool.true_and]
      exact Ev.ite_neg h0 (Ev.ite_neg h13 next)
    · rw [Bool.eq_false_iff.2 q, Bool.false_and, Bool.false_and]
      by_cases h0 : bt s (i : Int) = 0
      · exact Ev.ite_pos h0 (Ev.now _)
      · refine Ev.ite_neg h0 (Ev.ite_pos ?_ (Ev.now _))
        rw [gdI_iff] at q
        omega
theorem rgood_ev {s : ByteArray} (hs : s.size ≤ 100000) : Ev (fun k => rectoref06_Good.f k s) (goodB s) := rgood_l hs s.size 0 rfl
/- Where a text stands in another one -/
theorem pre_take {P l : List Int} : P.isPrefixOf l = true ↔ l.take P.length = P := by
  rw [List.isPrefixOf_iff_prefix, List.prefix_iff_eq_take]
  exact eq_comm
theorem eq_toList {s t : ByteArray} : (s.toList == t.toList) = decide (bl s = bl t) := by
  rw [Bool.eq_iff_iff, beq_iff_eq, decide_eq_true_eq, toList_eq, bl_iff]
theorem at6_f {s x : ByteArray} {i : Nat} (hs : s.size ≤ 100000) (hx : x.size ≤ 100000) (hi : i ≤ s.size) : rectoref06_at.f s (i : Int) x = some ((bl x).isPrefixOf ((bl s).drop i)) := by
  unfold rectoref06_at.f
  have e1 : wrap64 ((s.size : Int) - (i : Int)) = ((s.size - i : Nat) : Int) := by rw [w64 (by omega) (by omega)]; omega
  have e2 : wrap64 ((i : Int) + (x.size : Int)) = ((i + x.size : Nat) : Int) := by rw [w64 (by omega) (by omega)]; rfl
  have hl : ((bl s).drop i).length = s.size - i := by rw [List.length_drop, bl_length]
  rw [e1, e2, if_pos (by omega)]
  by_cases h : x.size ≤ s.size - i
  · rw [if_pos (by omega), if_pos (by omega), if_pos (by omega), if_pos (by omega), Int.toNat_natCast, Int.toNat_natCast, eq_toList, bl_extract, Nat.add_sub_cancel_left]
    refine congrArg some ?_
    rw [Bool.eq_iff_iff, decide_eq_true_eq, pre_take, bl_length]
  · rw [if_neg (by omega)]
    refine congrArg some ?_
    rw [eq_comm, Bool.eq_false_iff]
    intro z
    have := congrArg List.length (pre_take.1 z)
    rw [List.length_take, hl, bl_length] at this
    omega
theorem at6_neg {s x : ByteArray} {i : Int} (hi : i < 0) : rectoref06_at.f s i x = some false := by
  unfold rectoref06_at.f
  rw [if_neg (by omega)]
theorem pre_i8 : ∀ P l : List UInt8, (i8 P).isPrefixOf (i8 l) = P.isPrefixOf l
  | [], _ => by simp [i8]
  | _ :: _, [] => by simp [i8]
  | a :: P, b :: l => by
    have := pre_i8 P l
    show (((a.toNat : Int) == (b.toNat : Int)) && (i8 P).isPrefixOf (i8 l)) = (a == b && P.isPrefixOf l)
    rw [this]
    congr 1
    rw [Bool.eq_iff_iff, beq_iff_eq, beq_iff_eq]
    exact ⟨i8_inj, fun z => by rw [z]⟩
theorem hasPre_f {s x : ByteArray} : strings_HasPrefix.f s x = some ((bl x).isPrefixOf (bl s)) := congrArg some (pre_i8 _ _).symm
theorem hasSuf_f {s x : ByteArray} (hs : s.size ≤ 100000) : strings_HasSuffix.f s x = some (if x.size ≤ s.size then (bl x).isPrefixOf ((bl s).drop (s.size - x.size)) else false) := by
  unfold strings_HasSuffix.f
  rw [if_pos (by omega)]
  refine congrArg some ?_
  show x.data.toList.isSuffixOf s.data.toList = _
  rw [Bool.eq_iff_iff, List.isSuffixOf_iff_suffix, List.suffix_iff_eq_drop, ← size_length, ← size_length]
  have inj : ∀ {a b : List UInt8}, i8 a = i8 b → a = b := fun h => (List.map_inj_right (f := fun b : UInt8 => (b.toNat : Int)) fun a b hab => i8_inj hab).1 h
  by_cases h : x.size ≤ s.size
  · rw [if_pos h, pre_take, bl_length]
    have hl : ((bl s).drop (s.size - x.size)).length = x.size := by rw [List.length_drop, bl_length]; omega
    rw [List.take_of_length_le (by omega)]
    constructor
    · intro z
      rw [bl_i8 x, bl_i8 s, z]
      show List.drop _ (s.data.toList.map _) = ((s.data.toList.drop _).map _)
      rw [List.map_drop]
    · intro z
      refine inj ?_
      rw [← bl_i8 x, ← z]
      show List.drop _ (s.data.toList.map _) = ((s.data.toList.drop _).map _)
      rw [List.map_drop]
  · rw [if_neg h]
    constructor
    · intro z
      have := congrArg List.length z
      rw [List.length_drop, ← size_length, ← size_length] at this
      omega
    · intro z; cases z
/-- Does a text stand anywhere in another one? -/
def hasL (P : List Int) : List Int → Bool
  | [] => false
  | b :: t => P.isPrefixOf (b :: t) || hasL P t
theorem rhas_l {s x : ByteArray} (hs : s.size ≤ 100000) (hx : x.size ≤ 100000) : ∀ d i : Nat, d + i = s.size → Ev (fun k => rectoref06_Has.l0 k s x (i : Int)) (hasL (bl x) ((bl s).drop i))
  | 0, i, h => by
    refine Ev.step (fun k => by rw [rectoref06_Has.l0]) (Ev.ite_neg (by omega) (Ev.cast (Ev.now _) ?_))
    rw [List.drop_eq_nil_of_le (by rw [bl_length]; omega)]; rfl
  | d + 1, i, h => by
    have hlt : i < s.size := by omega
    have e1 : wrap64 ((i : Int) + 1) = ((i + 1 : Nat) : Int) := by rw [w64 (by omega) (by omega)]; rfl
    have next := rhas_l hs hx d (i + 1) (by omega)
    refine Ev.step (fun k => by rw [rectoref06_Has.l0]) ?_
    rw [e1]
    refine Ev.ite_pos (by omega) (Ev.bind (Ev.pure fun _ => at6_f hs hx (by omega)) ?_)
    have e : hasL (bl x) ((bl s).drop i) = ((bl x).isPrefixOf ((bl s).drop i) || hasL (bl x) ((bl s).drop (i + 1))) := by
      rw [bl_at hlt]; rfl
    rw [e]
    by_cases q : (bl x).isPrefixOf ((bl s).drop i) = true
    · rw [q, Bool.true_or]; exact Ev.ite_pos rfl (Ev.now _)
    · rw [Bool.eq_false_iff.2 q, Bool.false_or]; exact Ev.ite_neg (by decide) next
theorem rhas_ev {s x : ByteArray} (hs : s.size ≤ 100000) (hx : x.size ≤ 100000) : Ev (fun k => rectoref06_Has.f k s x) (hasL (bl x) (bl s)) := rhas_l hs hx s.size 0 rfl
theorem index_nil {P : List UInt8} (hP : P ≠ []) : Lib.index [] P = -1 := by
  rcases Lib.index_spec [] P with ⟨h, _⟩ | ⟨i, _, h1, h2, _⟩
  · exact h
  · obtain rfl : i = 0 := by simpa using h1
    cases P with
    | nil => exact absurd rfl hP
    | cons a t => simp [Lib.occAt] at h2
theorem contains_has {P : List UInt8} (hP : P ≠ []) : ∀ l : List UInt8, Lib.contains l P = hasL (i8 P) (i8 l)
  | [] => by unfold Lib.contains; rw [index_nil hP]; rfl
  | b :: t => by
    have ih := contains_has hP t
    show _ = ((i8 P).isPrefixOf (i8 (b :: t)) || hasL (i8 P) (i8 t))
    rw [pre_i8, ← ih]
    unfold Lib.contains
    by_cases q : P.isPrefixOf (b :: t) = true
    · rw [index_pre q, q]; rfl
    · have q' := Bool.eq_false_iff.2 q
      rw [index_miss q', q', Bool.false_or]
      have := Lib.index_ge t P
      split
      · rename_i z
        rw [beq_iff_eq] at z
        rw [z]
      · rename_i z
        rw [beq_iff_eq] at z
        rw [decide_eq_true (by omega), decide_eq_true (by omega)]
theorem has1_bl (s : ByteArray) : has1 s = hasL [45, 45, 62] (bl s) := contains_has (P := [45, 45, 62]) (by decide) _
theorem has2_bl (s : ByteArray) : has2 s = hasL [45, 45, 33, 62] (bl s) := contains_has (P := [45, 45, 33, 62]) (by decide) _
theorem link_ev : Ev (fun k => rectolaw06_link.f k) true := Ev.of (k := 64) rectolaw06_link.mono (by kernel_rfl)
end Go.Proofs.YtdoapeandigooaaDoor.P
