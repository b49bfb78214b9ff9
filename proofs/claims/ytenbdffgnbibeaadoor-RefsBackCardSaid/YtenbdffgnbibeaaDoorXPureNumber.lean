/- References, plainly: a reference by a number: the program's. -/
import Derived.Test.YtenbdffgnbibeaaDoorXPureNamed
import Derived.Test.YtenbdffgnbibeaaDoorX2
import Derived.Test.YtenbdffgnbibeaaDoorX3
namespace Go.Proofs.YtenbdffgnbibeaaDoor.X
open Go.RowKit Go.Proofs.YtenbdffgnbibeaaDoorW.PrintWords Go.Proofs.YtenbdffgnbibeaaDoorW.PrintLast
set_option linter.unusedSimpArgs false

/-- A digit's value; 99: it is none. -/
def dv (b : Int) : Int := if 48 ≤ b ∧ b ≤ 57 then b - 48 else if 97 ≤ b ∧ b ≤ 102 then b - 87 else if 65 ≤ b ∧ b ≤ 70 then b - 55 else 99
theorem dv_range (b : Int) : 0 ≤ dv b ∧ dv b ≤ 99 := by unfold dv; repeat' split; all_goals omega
theorem dv_lo {b : Int} (h : 48 ≤ b ∧ b ≤ 57) : dv b = b - 48 := if_pos h
theorem dv_a {b : Int} (h : 97 ≤ b ∧ b ≤ 102) : dv b = b - 87 := by unfold dv; rw [if_neg (by omega), if_pos h]
theorem dv_A {b : Int} (h : 65 ≤ b ∧ b ≤ 70) : dv b = b - 55 := by unfold dv; rw [if_neg (by omega), if_neg (by omega), if_pos h]
theorem dv_no {b : Int} (h : ¬ (48 ≤ b ∧ b ≤ 57)) (h1 : ¬ (97 ≤ b ∧ b ≤ 102)) (h2 : ¬ (65 ≤ b ∧ b ≤ 70)) : dv b = 99 := by unfold dv; rw [if_neg h, if_neg h1, if_neg h2]
theorem digB_iff {b : Int} : digB b = true ↔ 48 ≤ b ∧ b ≤ 57 := by unfold digB; simp
theorem digit_ev {b base : Int} (hb : base = 10 ∨ base = 16) : Ev (fun k => refs_digit.f k b base) (if dv b < base then dv b else -1) := by
  unfold refs_digit.f
  refine Ev.bind (Ev.pure fun _ => digit_f b) ?_
  by_cases h : digB b = true
  · have h' := digB_iff.1 h
    refine Ev.ite_pos h (Ev.cast (Ev.now _) ?_)
    rw [dv_lo h', if_pos (by omega)]; omega
  refine Ev.ite_neg h ?_
  have h' := fun z => h (digB_iff.2 z)
  have j : ∀ x : Bool, (x = true ↔ base = 16 ∧ 97 ≤ b ∧ b ≤ 102) → Ev (fun k => refs_digit.j0 k b base x) (if dv b < base then dv b else -1) := fun x hx => by
    refine Ev.step (fun k => by rw [refs_digit.j0]) ?_
    by_cases q : x = true
    · have := hx.1 q
      refine Ev.ite_pos q (Ev.cast (Ev.now _) ?_)
      rw [dv_a this.2, if_pos (by omega)]; omega
    · have n : ¬ (base = 16 ∧ 97 ≤ b ∧ b ≤ 102) := fun z => q (hx.2 z)
      refine Ev.ite_neg q ?_
      by_cases h16 : base = 16
      · refine Ev.ite_pos h16 ?_
        by_cases h65 : b ≥ 65
        · refine Ev.ite_pos h65 ?_
          by_cases h70 : b ≤ 70
          · refine Ev.ite_pos h70 (Ev.cast (Ev.now _) ?_)
            rw [dv_A ⟨h65, h70⟩, if_pos (by omega)]; omega
          · refine Ev.ite_neg h70 (Ev.cast (Ev.now _) ?_)
            rw [dv_no (by omega) (by omega) (by omega), if_neg (by omega)]
        · refine Ev.ite_neg h65 (Ev.cast (Ev.now _) ?_)
          rw [dv_no (by omega) (by omega) (by omega), if_neg (by omega)]
      · refine Ev.ite_neg h16 (Ev.cast (Ev.now _) ?_)
        have h10 : base = 10 := by omega
        subst h10
        rw [if_neg]
        by_cases q1 : 97 ≤ b ∧ b ≤ 102
        · rw [dv_a q1]; omega
        by_cases q2 : 65 ≤ b ∧ b ≤ 70
        · rw [dv_A q2]; omega
        rw [dv_no h' q1 q2]; omega
  by_cases h16 : base = 16
  · refine Ev.ite_pos h16 ?_
    by_cases h97 : b ≥ 97
    · exact Ev.ite_pos h97 (j _ (by rw [decide_eq_true_eq]; omega))
    · exact Ev.ite_neg h97 (j _ (by simp; omega))
  · exact Ev.ite_neg h16 (j _ (by simp; omega))
def accP (base : Int) : List Int → Int → Int
  | [], v => v
  | b :: l, v => if dv b < base then accP base l (min (v * base + dv b) 1114112) else v
def cnt (base : Int) : List Int → Nat
  | [] => 0
  | b :: l => if dv b < base then cnt base l + 1 else 0
theorem cnt_le (base : Int) : ∀ l, cnt base l ≤ l.length
  | [] => Nat.le_refl _
  | b :: l => by
    rw [cnt]
    have := cnt_le base l
    split
    · simp; omega
    · simp
/-- What is answered behind the digits. -/
def fin (l : List Int) (fr i v : Int) : Int × Int := if i = fr then (0, 0) else (num v, if l.getD i.toNat (-1) = 59 then i + 1 else i)
theorem bt_in {s : ByteArray} {i : Nat} (h : i < s.size) : bt s (i : Int) = (bl s).getD i (-1) := bt_of rfl (by rw [bl_length]; exact h)
theorem number_j3 {s : ByteArray} {i : Nat} {v fr : Int} (hi : i ≤ s.size) (hs : s.size ≤ 140737488355328) : Ev (fun k => refs_number.j3 k s (i : Int) v fr) (fin (bl s) fr i v) := by
  refine Ev.step (fun k => by rw [refs_number.j3]) ?_
  unfold fin
  by_cases h : (i : Int) = fr
  · rw [if_pos h]; exact Ev.ite_pos h (Ev.now (0, 0))
  refine Ev.ite_neg h ?_
  by_cases hl : (i : Int) < (s.size : Int)
  · refine Ev.ite_pos hl (Ev.ite_pos (by omega) ?_)
    have hb := bt_in (s := s) (i := i) (by omega)
    by_cases h59 : bt s (i : Int) = 59
    · refine Ev.ite_pos h59 (Ev.bind (num_ev v) (Ev.cast (Ev.now _) ?_))
      rw [if_neg h, Int.toNat_natCast, ← hb, if_pos h59, w64 (by omega) (by omega)]
    · refine Ev.ite_neg h59 (Ev.bind (num_ev v) (Ev.cast (Ev.now _) ?_))
      rw [if_neg h, Int.toNat_natCast, ← hb, if_neg h59]
  · refine Ev.ite_neg hl (Ev.bind (num_ev v) (Ev.cast (Ev.now _) ?_))
    rw [if_neg h, Int.toNat_natCast, getD_lt (by rw [bl_length]; omega), if_neg (by decide)]
theorem drop_at {s : ByteArray} {i : Nat} (h : i < s.size) : (bl s).drop i = bt s (i : Int) :: (bl s).drop (i + 1) := by
  have h' : i < (bl s).length := by rw [bl_length]; exact h
  rw [List.drop_eq_getElem_cons h', bt_in h, List.getD_eq_getElem?_getD, List.getElem?_eq_getElem h']
  rfl
theorem mn_min (a b : Int) : mn a b = min a b := by unfold mn; split <;> omega
theorem number_l0 {s : ByteArray} {base fr : Int} (hb : base = 10 ∨ base = 16) (hs : s.size ≤ 140737488355328) : ∀ (d i : Nat) (v : Int), d + i = s.size → 0 ≤ v → v ≤ 1114112 →
    Ev (fun k => refs_number.l0 k s base (i : Int) v fr) (fin (bl s) fr ((i + cnt base ((bl s).drop i) : Nat) : Int) (accP base ((bl s).drop i) v))
  | 0, i, v, h, _, _ => by
    refine Ev.step (fun k => by rw [refs_number.l0]) ?_
    rw [List.drop_eq_nil_of_le (by rw [bl_length]; omega)]
    exact Ev.ite_neg (by omega) (number_j3 (by omega) hs)
  | d + 1, i, v, h, h0, h1 => by
    refine Ev.step (fun k => by rw [refs_number.l0]) ?_
    rw [drop_at (show i < s.size by omega), cnt, accP]
    have hd := dv_range (bt s (i : Int))
    refine Ev.ite_pos (by omega) (Ev.ite_pos (by omega) (Ev.bind (digit_ev hb) ?_))
    by_cases q : dv (bt s (i : Int)) < base
    · rw [if_pos q, if_pos q, if_pos q]
      refine Ev.ite_pos hd.1 ?_
      have e : wrap64 (wrap64 (v * base) + dv (bt s (i : Int))) = v * base + dv (bt s (i : Int)) := by
        have : 0 ≤ v * base ∧ v * base ≤ 1114112 * 16 := by rcases hb with rfl | rfl <;> omega
        rw [w64 (x := v * base) (by omega) (by omega), w64 (by omega) (by omega)]
      have nn : 0 ≤ v * base := by rcases hb with rfl | rfl <;> omega
      rw [e, w64 (by omega) (by omega), mn_min, show i + (cnt base ((bl s).drop (i + 1)) + 1) = i + 1 + cnt base ((bl s).drop (i + 1)) by omega]
      exact number_l0 hb hs d (i + 1) _ (by omega) (by omega) (by omega)
    · rw [if_neg q, if_neg q, if_neg q]
      exact Ev.ite_neg (by decide) (number_j3 (by omega) hs)
/-- A reference by a number with which a text begins, behind its &#: its character, and how many bytes it has; 0: there is none. -/
def numL (l : List Int) : Int × Int := if l.getD 0 (-1) = 120 ∨ l.getD 0 (-1) = 88 then fin l 1 ((1 + cnt 16 (l.drop 1) : Nat) : Int) (accP 16 (l.drop 1) 0) else fin l 0 ((cnt 10 l : Nat) : Int) (accP 10 l 0)
theorem number_ev {s : ByteArray} (hs : s.size ≤ 140737488355328) : Ev (fun k => refs_number.f k s) (numL (bl s)) := by
  have j1a : 1 ≤ s.size → Ev (fun k => refs_number.j1 k s 16 1) (fin (bl s) 1 ((1 + cnt 16 ((bl s).drop 1) : Nat) : Int) (accP 16 ((bl s).drop 1) 0)) := fun h =>
    Ev.step (fun k => by rw [refs_number.j1]; rfl) (number_l0 (Or.inr rfl) hs (s.size - 1) 1 0 (by omega) (by decide) (by decide))
  have j1b : Ev (fun k => refs_number.j1 k s 10 0) (fin (bl s) 0 ((cnt 10 (bl s) : Nat) : Int) (accP 10 (bl s) 0)) := by
    have := number_l0 (fr := 0) (Or.inl rfl) hs s.size 0 0 (by omega) (by decide) (by decide)
    rw [List.drop_zero, Nat.zero_add] at this
    exact Ev.step (fun k => by rw [refs_number.j1]; rfl) this
  have j0 : ∀ x : Bool, (x = true → 1 ≤ s.size) → Ev (fun k => refs_number.j0 k s 10 0 x) (if x = true then fin (bl s) 1 ((1 + cnt 16 ((bl s).drop 1) : Nat) : Int) (accP 16 ((bl s).drop 1) 0) else fin (bl s) 0 ((cnt 10 (bl s) : Nat) : Int) (accP 10 (bl s) 0)) := fun x hx => by
    refine Ev.step (fun k => by rw [refs_number.j0]) ?_
    by_cases q : x = true
    · exact Ev.ite_pos q (Ev.cast (j1a (hx q)) (if_pos q).symm)
    · exact Ev.ite_neg q (Ev.cast j1b (if_neg q).symm)
  unfold refs_number.f numL
  by_cases h : bl s = []
  · refine Ev.ite_pos (bl_nil.2 h) (Ev.cast (j0 false (fun z => absurd z (by decide))) ?_)
    rw [if_neg (by decide), if_neg (by rw [h]; decide)]
  · have hl : 0 < s.size := by rw [← bl_length]; exact List.length_pos_iff.2 h
    refine Ev.ite_neg (fun e => h (bl_nil.1 e)) (Ev.ite_pos (by omega) ?_)
    have hb : bt s 0 = (bl s).getD 0 (-1) := bt_0 h
    by_cases h120 : bt s 0 = 120
    · refine Ev.ite_pos h120 (Ev.cast (j0 true (fun _ => hl)) ?_)
      rw [if_pos rfl, if_pos (Or.inl (hb ▸ h120))]
    · refine Ev.ite_neg h120 (Ev.cast (j0 _ (fun _ => hl)) ?_)
      by_cases h88 : bt s 0 = 88
      · rw [if_pos (beq_iff_eq.2 h88), if_pos (Or.inr (hb ▸ h88))]
      · rw [if_neg (fun z => h88 (beq_iff_eq.1 z)), if_neg (by rw [← hb]; omega)]
end Go.Proofs.YtenbdffgnbibeaaDoor.X
