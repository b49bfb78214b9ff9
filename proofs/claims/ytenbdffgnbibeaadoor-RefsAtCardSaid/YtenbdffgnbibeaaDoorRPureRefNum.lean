/- References, plainly: a reference by a number: the document's. -/
import Derived.Test.YtenbdffgnbibeaaDoorRPureRefAt
import Derived.Test.YtenbdffgnbibeaaDoorR5
import Derived.Test.YtenbdffgnbibeaaDoorR6
import Derived.Test.YtenbdffgnbibeaaDoorR8
namespace Go.Proofs.YtenbdffgnbibeaaDoor.R
open Go.RowKit Go.Proofs.YtenbdffgnbibeaaDoorW.PrintWords Go.Proofs.YtenbdffgnbibeaaDoorW.PrintLast
set_option linter.unusedSimpArgs false

theorem value_ev {b : Int} (h0 : 0 ≤ b) (h1 : b ≤ 255) : Ev (fun k => rectoref04_value.f k b) (dv b) := by
  have j1 : ¬ (48 ≤ b ∧ b ≤ 57) → ∀ x : Bool, (x = true ↔ 97 ≤ b ∧ b ≤ 102) → Ev (fun k => rectoref04_value.j1 k b x) (dv b) := fun n x hx => by
    refine Ev.step (fun k => by rw [rectoref04_value.j1]) ?_
    by_cases q : x = true
    · refine Ev.ite_pos q (Ev.cast (Ev.now _) ?_)
      rw [dv_a (hx.1 q), w64 (x := b) (by omega) (by omega), w64 (by omega) (by omega)]
    · have n1 := fun z => q (hx.2 z)
      refine Ev.ite_neg q ?_
      by_cases h65 : b ≥ 65
      · refine Ev.ite_pos h65 ?_
        by_cases h70 : b ≤ 70
        · refine Ev.ite_pos h70 (Ev.cast (Ev.now _) ?_)
          rw [dv_A ⟨h65, h70⟩, w64 (x := b) (by omega) (by omega), w64 (by omega) (by omega)]
        · refine Ev.ite_neg h70 (Ev.cast (Ev.now _) ?_)
          rw [dv_no n n1 (by omega)]
      · refine Ev.ite_neg h65 (Ev.cast (Ev.now _) ?_)
        rw [dv_no n n1 (by omega)]
  have j0 : ∀ x : Bool, (x = true ↔ 48 ≤ b ∧ b ≤ 57) → Ev (fun k => rectoref04_value.j0 k b x) (dv b) := fun x hx => by
    refine Ev.step (fun k => by rw [rectoref04_value.j0]) ?_
    by_cases q : x = true
    · refine Ev.ite_pos q (Ev.cast (Ev.now _) ?_)
      rw [dv_lo (hx.1 q), w64 (x := b) (by omega) (by omega), w64 (by omega) (by omega)]
    · have n := fun z => q (hx.2 z)
      refine Ev.ite_neg q ?_
      by_cases h97 : b ≥ 97
      · exact Ev.ite_pos h97 (j1 n _ (by rw [decide_eq_true_eq]; omega))
      · exact Ev.ite_neg h97 (j1 n _ (by simp; omega))
  unfold rectoref04_value.f
  by_cases h48 : b ≥ 48
  · exact Ev.ite_pos h48 (j0 _ (by rw [decide_eq_true_eq]; omega))
  · exact Ev.ite_neg h48 (j0 _ (by simp; omega))
def accR (base : Int) : List Int → Int → Int
  | [], v => v
  | b :: l, v => if dv b < base then accR base l (min (v * base + dv b) 2000000) else v
theorem acc_min {base : Int} (hb : base = 10 ∨ base = 16) : ∀ (l : List Int) (v : Int), 0 ≤ v → v ≤ 2000000 → accP base l (min v 1114112) = min (accR base l v) 1114112 ∧ 0 ≤ accR base l v
  | [], v, h, _ => ⟨rfl, h⟩
  | b :: l, v, h, h' => by
    rw [accP, accR]
    have hd := dv_range b
    by_cases q : dv b < base
    · rw [if_pos q, if_pos q]
      have nn : 0 ≤ v * base := by rcases hb with rfl | rfl <;> omega
      have e : min (min v 1114112 * base + dv b) 1114112 = min (min (v * base + dv b) 2000000) 1114112 := by
        rcases hb with rfl | rfl <;> omega
      rw [e]
      exact acc_min hb l _ (by omega) (by omega)
    · rw [if_neg q, if_neg q]; exact ⟨rfl, h⟩
theorem num_min (n : Int) : num (min n 1114112) = num n := by
  by_cases q : n ≤ 1114112
  · rw [Int.min_eq_left q]
  · rw [Int.min_eq_right (by omega)]
    unfold num
    rw [if_neg (by decide), if_neg (by decide), if_neg (by omega), if_neg (fun c => by have := isC_iff.1 c; omega)]
theorem num_acc {base : Int} (hb : base = 10 ∨ base = 16) (l : List Int) : num (accR base l 0) = num (accP base l 0) := by
  obtain ⟨e, _⟩ := acc_min hb l 0 (Int.le_refl _) (by decide)
  rw [← num_min, ← e]; rfl
theorem at_f (s : ByteArray) (i : Nat) : rectoref04_at.f s (i : Int) = some (if i < s.size then bt s (i : Int) else 0) := by
  unfold rectoref04_at.f
  rw [if_neg (by omega)]
  by_cases h : i < s.size
  · rw [if_neg (by omega), if_pos (by omega), if_pos (by omega), if_pos h]
  · rw [if_pos (by omega), if_neg h]
theorem at_is {s : ByteArray} {i : Nat} {x : Int} (hx : 0 < x) : (if i < s.size then bt s (i : Int) else 0) = x ↔ (bl s).getD i (-1) = x := by
  by_cases h : i < s.size
  · rw [if_pos h, bt_in h]
  · rw [if_neg h, getD_lt (by rw [bl_length]; omega)]; omega
/-- What the document answers behind the digits. -/
def finR (s : ByteArray) (fr i v : Int) : ByteArray × Int := if i = fr then (⟨#[]⟩, -1) else (strOfNums (encB (orC (num v))), if (bl s).getD i.toNat (-1) = 59 then i + 1 else i)
theorem rnumber_no {s : ByteArray} {base fr v : Int} {i : Nat} {b : Bool} (hq : b = false) (hi : i ≤ s.size) (hs : s.size ≤ 140737488355328) : Ev (fun k => rectoref04_number.j1 k s fr base v (i : Int) b) (finR s fr i v) := by
  refine Ev.step (fun k => by rw [rectoref04_number.j1]) (Ev.ite_neg (by rw [hq]; decide) ?_)
  unfold finR
  by_cases h : (i : Int) = fr
  · rw [if_pos h]; exact Ev.ite_pos h (Ev.now _)
  refine Ev.ite_neg h (Ev.bind (Ev.pure fun _ => at_f s i) ?_)
  rw [if_neg h, Int.toNat_natCast]
  by_cases h59 : (if i < s.size then bt s (i : Int) else 0) = 59
  · refine Ev.ite_pos h59 (Ev.bind (rnum_ev v) (Ev.bind (refBytes_ev _) (Ev.cast (Ev.now _) ?_)))
    rw [if_pos ((at_is (by decide)).1 h59), w64 (by omega) (by omega)]
  · refine Ev.ite_neg h59 (Ev.bind (rnum_ev v) (Ev.bind (refBytes_ev _) (Ev.cast (Ev.now _) ?_)))
    rw [if_neg (fun z => h59 ((at_is (by decide)).2 z))]
theorem rnumber_l0 {s : ByteArray} {base fr : Int} (hb : base = 10 ∨ base = 16) (hs : s.size ≤ 140737488355328) : ∀ (d i : Nat) (v : Int), d + i = s.size → 0 ≤ v → v ≤ 2000000 →
    Ev (fun k => rectoref04_number.l0 k s fr base v (i : Int)) (finR s fr ((i + cnt base ((bl s).drop i) : Nat) : Int) (accR base ((bl s).drop i) v))
  | 0, i, v, h, _, _ => by
    refine Ev.step (fun k => by rw [rectoref04_number.l0]) ?_
    rw [List.drop_eq_nil_of_le (by rw [bl_length]; omega)]
    exact Ev.ite_neg (by omega) (rnumber_no rfl (by omega) hs)
  | d + 1, i, v, h, h0, h1 => by
    refine Ev.step (fun k => by rw [rectoref04_number.l0]) ?_
    have hr := bl_range (s := s) (x := bt s (i : Int)) (by rw [bt_in (show i < s.size by omega), List.getD_eq_getElem?_getD, List.getElem?_eq_getElem (by rw [bl_length]; omega)]; exact List.getElem_mem _)
    rw [drop_at (show i < s.size by omega), cnt, accR]
    have hd := dv_range (bt s (i : Int))
    refine Ev.ite_pos (by omega) (Ev.ite_pos (by omega) (Ev.bind (value_ev hr.1 hr.2) ?_))
    by_cases q : dv (bt s (i : Int)) < base
    · rw [if_pos q, if_pos q]
      have nn : 0 ≤ v * base ∧ v * base ≤ 2000000 * 16 := by rcases hb with rfl | rfl <;> omega
      have e : wrap64 (wrap64 (v * base) + dv (bt s (i : Int))) = v * base + dv (bt s (i : Int)) := by
        rw [w64 (x := v * base) (by omega) (by omega), w64 (by omega) (by omega)]
      have go := fun v' a b => rnumber_l0 (fr := fr) hb hs d (i + 1) v' (by omega) a b
      rw [show i + 1 + cnt base ((bl s).drop (i + 1)) = i + (cnt base ((bl s).drop (i + 1)) + 1) by omega] at go
      refine Ev.step (fun k => by rw [rectoref04_number.j1]) (Ev.ite_pos (decide_eq_true q) (Ev.ite_pos (by omega) (Ev.ite_pos (by omega) (Ev.bind (value_ev hr.1 hr.2) ?_))))
      rw [e, w64 (x := (i : Int) + 1) (by omega) (by omega)]
      by_cases big : v * base + dv (bt s (i : Int)) > 2000000
      · refine Ev.ite_pos big ?_
        rw [Int.min_eq_right (by omega)]
        exact go _ (by decide) (by decide)
      · refine Ev.ite_neg big ?_
        rw [Int.min_eq_left (by omega)]
        exact go _ (by omega) (by omega)
    · rw [if_neg q, if_neg q]
      exact rnumber_no (decide_eq_false q) (by omega) hs
end Go.Proofs.YtenbdffgnbibeaaDoor.R
