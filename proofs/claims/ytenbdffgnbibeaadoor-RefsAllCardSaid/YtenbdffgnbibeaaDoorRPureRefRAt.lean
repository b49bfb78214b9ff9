/- References, plainly: a reference by a number: the document's. -/
import Derived.Test.YtenbdffgnbibeaaDoorRPureRefAll
import Derived.Test.YtenbdffgnbibeaaDoorR4
import Derived.Test.YtenbdffgnbibeaaDoorR5
import Derived.Test.YtenbdffgnbibeaaDoorR6
import Derived.Test.YtenbdffgnbibeaaDoorR7
import Derived.Test.YtenbdffgnbibeaaDoorR8
import Derived.Test.YtenbdffgnbibeaaDoorR9
namespace Go.Proofs.YtenbdffgnbibeaaDoor.R
open Go.RowKit Go.Proofs.YtenbdffgnbibeaaDoorW.PrintWords Go.Proofs.YtenbdffgnbibeaaDoorW.PrintLast
set_option linter.unusedSimpArgs false

theorem value_ev {b : Int} (h0 : 0 ≤ b) (h1 : b ≤ 255) : Ev (fun k => rectoref04_value.f k b) (dv b) := by
  have j1 : ¬ (48 ≤ b ∧ b ≤ 57) → ∀ x : Bool, (x = true ↔ 97 ≤ b ∧ b ≤ 102) → Ev (fun k => rectoref04_value.j1 k b x) (dv b) := fun n x hx => by
    refine Ev.step (fun k => by rw [rectoref04_value.j1]) ?_
    by_cases q : x = true
    · refine Ev.ite_pos q (Ev.cast (Ev.now _) ?_)
      rw [dv_a (hx.1 q), w64 (x := b) (by omega) (by omega), w64 (by omega) (by omega)]
    · have n1 := fun z => q (hx.2 z)
      refine Ev.ite_neg q ?_
      by_cases h65 : b ≥ 65
      · refine Ev.ite_pos h65 ?_
        by_cases h70 : b ≤ 70
        · refine Ev.ite_pos h70 (Ev.cast (Ev.now _) ?_)
          rw [dv_A ⟨h65, h70⟩, w64 (x := b) (by omega) (by omega), w64 (by omega) (by omega)]
        · refine Ev.ite_neg h70 (Ev.cast (Ev.now _) ?_)
          rw [dv_no n n1 (by omega)]
      · refine Ev.ite_neg h65 (Ev.cast (Ev.now _) ?_)
        rw [dv_no n n1 (by omega)]
  have j0 : ∀ x : Bool, (x = true ↔ 48 ≤ b ∧ b ≤ 57) → Ev (fun k => rectoref04_value.j0 k b x) (dv b) := fun x hx => by
    refine Ev.step (fun k => by rw [rectoref04_value.j0]) ?_
    by_cases q : x = true
    · refine Ev.ite_pos q (Ev.cast (Ev.now _) ?_)
      rw [dv_lo (hx.1 q), w64 (x := b) (by omega) (by omega), w64 (by omega) (by omega)]
    · have n := fun z => q (hx.2 z)
      refine Ev.ite_neg q ?_
      by_cases h97 : b ≥ 97
      · exact Ev.ite_pos h97 (j1 n _ (by rw [decide_eq_true_eq]; omega))
      · exact Ev.ite_neg h97 (j1 n _ (by simp; omega))
  unfold rectoref04_value.f
  by_cases h48 : b ≥ 48
  · exact Ev.ite_pos h48 (j0 _ (by rw [decide_eq_true_eq]; omega))
  · exact Ev.ite_neg h48 (j0 _ (by simp; omega))
def accR (base : Int) : List Int → Int → Int
  | [], v => v
  | b :: l, v => if dv b < base then accR base l (min (v * base + dv b) 2000000) else v
theorem acc_min {base : Int} (hb : base = 10 ∨ base = 16) : ∀ (l : List Int) (v : Int), 0 ≤ v → v ≤ 2000000 → accP base l (min v 1114112) = min (accR base l v) 1114112 ∧ 0 ≤ accR base l v
  | [], v, h, _ => ⟨rfl, h⟩
  | b :: l, v, h, h' => by
    rw [accP, accR]
    have hd := dv_range b
    by_cases q : dv b < base
    · rw [if_pos q, if_pos q]
      have nn : 0 ≤ v * base := by rcases hb with rfl | rfl <;> omega
      have e : min (min v 1114112 * base + dv b) 1114112 = min (min (v * base + dv b) 2000000) 1114112 := by
        rcases hb with rfl | rfl <;> omega
      rw [e]
      exact acc_min hb l _ (by omega) (by omega)
    · rw [if_neg q, if_neg q]; exact ⟨rfl, h⟩
theorem num_min (n : Int) : num (min n 1114112) = num n := by
  by_cases q : n ≤ 1114112
  · rw [Int.min_eq_left q]
  · rw [Int.min_eq_right (by omega)]
    unfold num
    rw [if_neg (by decide), if_neg (by decide), if_neg (by omega), if_neg (fun c => by have := isC_iff.1 c; omega)]
theorem num_acc {base : Int} (hb : base = 10 ∨ base = 16) (l : List Int) : num (accR base l 0) = num (accP base l 0) := by
  obtain ⟨e, _⟩ := acc_min hb l 0 (Int.le_refl _) (by decide)
  rw [← num_min, ← e]; rfl
theorem at_f (s : ByteArray) (i : Nat) : rectoref04_at.f s (i : Int) = some (if i < s.size then bt s (i : Int) else 0) := by
  unfold rectoref04_at.f
  rw [if_neg (by omega)]
  by_cases h : i < s.size
  · rw [if_neg (by omega), if_pos (by omega), if_pos (by omega), if_pos h]
  · rw [if_pos (by omega), if_neg h]
theorem at_is {s : ByteArray} {i : Nat} {x : Int} (hx : 0 < x) : (if i < s.size then bt s (i : Int) else 0) = x ↔ (bl s).getD i (-1) = x := by
  by_cases h : i < s.size
  · rw [if_pos h, bt_in h]
  · rw [if_neg h, getD_lt (by rw [bl_length]; omega)]; omega
/-- What the document answers behind the digits. -/
def finR (s : ByteArray) (fr i v : Int) : ByteArray × Int := if i = fr then (⟨#[]⟩, -1) else (strOfNums (encB (orC (num v))), if (bl s).getD i.toNat (-1) = 59 then i + 1 else i)
theorem rnumber_no {s : ByteArray} {base fr v : Int} {i : Nat} {b : Bool} (hq : b = false) (hi : i ≤ s.size) (hs : s.size ≤ 140737488355328) : Ev (fun k => rectoref04_number.j1 k s fr base v (i : Int) b) (finR s fr i v) := by
  refine Ev.step (fun k => by rw [rectoref04_number.j1]) (Ev.ite_neg (by rw [hq]; decide) ?_)
  unfold finR
  by_cases h : (i : Int) = fr
  · rw [if_pos h]; exact Ev.ite_pos h (Ev.now _)
  refine Ev.ite_neg h (Ev.bind (Ev.pure fun _ => at_f s i) ?_)
  rw [if_neg h, Int.toNat_natCast]
  by_cases h59 : (if i < s.size then bt s (i : Int) else 0) = 59
  · refine Ev.ite_pos h59 (Ev.bind (rnum_ev v) (Ev.bind (refBytes_ev _) (Ev.cast (Ev.now _) ?_)))
    rw [if_pos ((at_is (by decide)).1 h59), w64 (by omega) (by omega)]
  · refine Ev.ite_neg h59 (Ev.bind (rnum_ev v) (Ev.bind (refBytes_ev _) (Ev.cast (Ev.now _) ?_)))
    rw [if_neg (fun z => h59 ((at_is (by decide)).2 z))]
theorem rnumber_l0 {s : ByteArray} {base fr : Int} (hb : base = 10 ∨ base = 16) (hs : s.size ≤ 140737488355328) : ∀ (d i : Nat) (v : Int), d + i = s.size → 0 ≤ v → v ≤ 2000000 →
    Ev (fun k => rectoref04_number.l0 k s fr base v (i : Int)) (finR s fr ((i + cnt base ((bl s).drop i) : Nat) : Int) (accR base ((bl s).drop i) v))
  | 0, i, v, h, _, _ => by
    refine Ev.step (fun k => by rw [rectoref04_number.l0]) ?_
    rw [List.drop_eq_nil_of_le (by rw [bl_length]; omega)]
    exact Ev.ite_neg (by omega) (rnumber_no rfl (by omega) hs)
  | d + 1, i, v, h, h0, h1 => by
    refine Ev.step (fun k => by rw [rectoref04_number.l0]) ?_
    have hr := bl_range (s := s) (x := bt s (i : Int)) (by rw [bt_in (show i < s.size by omega), List.getD_eq_getElem?_getD, List.getElem?_eq_getElem (by rw [bl_length]; omega)]; exact List.getElem_mem _)
    rw [drop_at (show i < s.size by omega), cnt, accR]
    have hd := dv_range (bt s (i : Int))
    refine Ev.ite_pos (by omega) (Ev.ite_pos (by omega) (Ev.bind (value_ev hr.1 hr.2) ?_))
    by_cases q : dv (bt s (i : Int)) < base
    · rw [if_pos q, if_pos q]
      have nn : 0 ≤ v * base ∧ v * base ≤ 2000000 * 16 := by rcases hb with rfl | rfl <;> omega
      have e : wrap64 (wrap64 (v * base) + dv (bt s (i : Int))) = v * base + dv (bt s (i : Int)) := by
        rw [w64 (x := v * base) (by omega) (by omega), w64 (by omega) (by omega)]
      have go := fun v' a b => rnumber_l0 (fr := fr) hb hs d (i + 1) v' (by omega) a b
      rw [show i + 1 + cnt base ((bl s).drop (i + 1)) = i + (cnt base ((bl s).drop (i + 1)) + 1) by omega] at go
      refine Ev.step (fun k => by rw [rectoref04_number.j1]) (Ev.ite_pos (decide_eq_true q) (Ev.ite_pos (by omega) (Ev.ite_pos (by omega) (Ev.bind (value_ev hr.1 hr.2) ?_))))
      rw [e, w64 (x := (i : Int) + 1) (by omega) (by omega)]
      by_cases big : v * base + dv (bt s (i : Int)) > 2000000
      · refine Ev.ite_pos big ?_
        rw [Int.min_eq_right (by omega)]
        exact go _ (by decide) (by decide)
      · refine Ev.ite_neg big ?_
        rw [Int.min_eq_left (by omega)]
        exact go _ (by omega) (by omega)
    · rw [if_neg q, if_neg q]
      exact rnumber_no (decide_eq_false q) (by omega) hs
end Go.Proofs.YtenbdffgnbibeaaDoor.R
namespace Go.Proofs.YtenbdffgnbibeaaDoor.R
open Go.RowKit Go.Proofs.YtenbdffgnbibeaaDoorW.PrintWords Go.Proofs.YtenbdffgnbibeaaDoorW.PrintLast
set_option linter.unusedSimpArgs false

abbrev Row := List Int × Int × Bool
def lookI : List Row → List Int → Int
  | [], _ => 0
  | r :: rs, x => if r.1 = x then r.2.1 else lookI rs x
def looseI : List Row → List Int → Bool
  | [], _ => false
  | r :: rs, x => if r.1 = x then r.2.2 else looseI rs x
theorem lookI_in {x : List Int} : ∀ rs : List Row, lookI rs x ≠ 0 → ∃ r ∈ rs, r.1 = x
  | [], h => absurd rfl h
  | r :: rs, h => by
    by_cases q : r.1 = x
    · exact ⟨r, List.mem_cons_self .., q⟩
    · rw [lookI, if_neg q] at h
      obtain ⟨r', m, e⟩ := lookI_in rs h
      exact ⟨r', List.mem_cons_of_mem _ m, e⟩
theorem looseI_in {x : List Int} : ∀ rs : List Row, looseI rs x = true → ∃ r ∈ rs, r.1 = x
  | [], h => by cases h
  | r :: rs, h => by
    by_cases q : r.1 = x
    · exact ⟨r, List.mem_cons_self .., q⟩
    · rw [looseI, if_neg q] at h
      obtain ⟨r', m, e⟩ := looseI_in rs h
      exact ⟨r', List.mem_cons_of_mem _ m, e⟩
theorem row_facts : ∀ r ∈ rowsI, lookI rowsI r.1 = r.2.1 ∧ looseI rowsI r.1 = r.2.2 ∧ r.2.1 ≠ 0 ∧ (∀ x ∈ r.1, x ≠ 59) ∧ isC r.2.1 = true := by decide +kernel
theorem best_spec (l : List Int) (v : Bool) : ∀ (rs : List Row) (c n : Int), (best l v rs c n = (c, n) ∧ ∀ r ∈ rs, cand l v r ≤ n) ∨ ∃ r ∈ rs, best l v rs c n = (r.2.1, cand l v r) ∧ n < cand l v r ∧ ∀ r' ∈ rs, cand l v r' ≤ cand l v r
  | [], c, n => Or.inl ⟨rfl, fun r h => by cases h⟩
  | r :: rs, c, n => by
    rw [best]
    by_cases q : cand l v r > n
    · rw [if_pos q]
      rcases best_spec l v rs r.2.1 (cand l v r) with ⟨e, h⟩ | ⟨r', m, e, h1, h2⟩
      · refine Or.inr ⟨r, List.mem_cons_self .., e, q, fun r' hr' => ?_⟩
        rcases List.mem_cons.1 hr' with rfl | hr'
        · exact Int.le_refl _
        · exact h r' hr'
      · refine Or.inr ⟨r', List.mem_cons_of_mem _ m, e, by omega, fun r'' hr' => ?_⟩
        rcases List.mem_cons.1 hr' with rfl | hr'
        · omega
        · exact h2 r'' hr'
    · rw [if_neg q]
      rcases best_spec l v rs c n with ⟨e, h⟩ | ⟨r', m, e, h1, h2⟩
      · refine Or.inl ⟨e, fun r' hr' => ?_⟩
        rcases List.mem_cons.1 hr' with rfl | hr'
        · omega
        · exact h r' hr'
      · refine Or.inr ⟨r', List.mem_cons_of_mem _ m, e, h1, fun r'' hr' => ?_⟩
        rcases List.mem_cons.1 hr' with rfl | hr'
        · omega
        · exact h2 r'' hr'
/-- The character of a reference of so many bytes, as the document looks for it; 0: there is none. -/
def hit (l : List Int) (v : Bool) (n : Nat) : Int :=
  if n ≤ l.length then
    if l.getD (n - 1) (-1) = 59 ∧ lookI rowsI (l.take (n - 1)) ≠ 0 then lookI rowsI (l.take (n - 1))
    else if looseI rowsI (l.take n) = true ∧ ¬ (v = true ∧ wordy (l.getD n (-1)) = true) then lookI rowsI (l.take n) else 0
  else 0
def refN (l : List Int) (v : Bool) : Nat → Int × Int
  | 0 => (0, 0)
  | n + 1 => if hit l v (n + 1) ≠ 0 then (hit l v (n + 1), ((n + 1 : Nat) : Int)) else refN l v n
theorem take_last {l : List Int} {n : Nat} (h : n + 1 ≤ l.length) : l.getD n (-1) ∈ l.take (n + 1) := by
  have e : l.getD n (-1) = l[n] := by rw [List.getD_eq_getElem?_getD, List.getElem?_eq_getElem (by omega)]; rfl
  rw [e, List.mem_iff_getElem]
  exact ⟨n, by rw [List.length_take]; omega, by rw [List.getElem_take]⟩
theorem hit_cand {l : List Int} {v : Bool} {r : Row} (m : r ∈ rowsI) {n : Nat} (hn : 0 < n) (h : cand l v r = (n : Int)) : hit l v n = r.2.1 := by
  obtain ⟨f1, f2, f3, f4, _⟩ := row_facts r m
  unfold cand at h
  by_cases q : l.take r.1.length = r.1
  · rw [if_pos q] at h
    have hl := congrArg List.length q
    rw [List.length_take] at hl
    by_cases q59 : l.getD r.1.length (-1) = 59
    · rw [if_pos q59] at h
      have := getD_m1 q59 (by decide)
      obtain rfl : n = r.1.length + 1 := by omega
      unfold hit
      rw [if_pos (by omega), Nat.add_sub_cancel, q, if_pos ⟨q59, by rw [f1]; exact f3⟩, f1]
    · rw [if_neg q59] at h
      split at h
      · rename_i k
        obtain rfl : n = r.1.length := by omega
        unfold hit
        obtain ⟨j, hj⟩ : ∃ j, r.1.length = j + 1 := ⟨r.1.length - 1, by omega⟩
        have hm : l.getD j (-1) ∈ r.1 := by rw [← q, hj]; exact take_last (by omega)
        rw [if_pos (by omega), if_neg (fun z => f4 _ hm (by rw [hj, Nat.add_sub_cancel] at z; exact z.1)), q, if_pos ⟨by rw [f2]; exact k.1, k.2⟩, f1]
      · omega
  · rw [if_neg q] at h; omega
theorem hit_row {l : List Int} {v : Bool} {n : Nat} (hn : 0 < n) (hm : ∀ r ∈ rowsI, cand l v r ≤ (n : Int)) (h : hit l v n ≠ 0) : ∃ r ∈ rowsI, cand l v r = (n : Int) := by
  unfold hit at h
  by_cases hl : n ≤ l.length
  · rw [if_pos hl] at h
    by_cases q : l.getD (n - 1) (-1) = 59 ∧ lookI rowsI (l.take (n - 1)) ≠ 0
    · obtain ⟨r, m, e⟩ := lookI_in rowsI q.2
      have el : r.1.length = n - 1 := by rw [e, List.length_take]; omega
      refine ⟨r, m, ?_⟩
      unfold cand
      rw [el, if_pos e.symm, if_pos q.1]; omega
    · rw [if_neg q] at h
      split at h
      · rename_i k
        obtain ⟨r, m, e⟩ := looseI_in rowsI k.1
        have el : r.1.length = n := by rw [e, List.length_take]; omega
        obtain ⟨_, f2, _⟩ := row_facts r m
        refine ⟨r, m, ?_⟩
        have hc := hm r m
        unfold cand at hc ⊢
        rw [el] at hc ⊢
        rw [if_pos e.symm] at hc ⊢
        by_cases q59 : l.getD n (-1) = 59
        · rw [if_pos q59] at hc; omega
        · rw [if_neg q59, if_pos ⟨by rw [← f2, e]; exact k.1, k.2⟩]
      · exact absurd rfl h
  · rw [if_neg hl] at h; exact absurd rfl h
theorem refN_best (l : List Int) (v : Bool) : refN l v 7 = best l v rowsI 0 0 := by
  rcases best_spec l v rowsI 0 0 with ⟨e, h⟩ | ⟨r, m, e, h1, h2⟩
  · rw [e]
    have no : ∀ n : Nat, refN l v n = (0, 0) := fun n => by
      induction n with
      | zero => rfl
      | succ n ih =>
        rw [refN, if_neg, ih]
        intro z
        obtain ⟨r, m, hc⟩ := hit_row (by omega) (fun r m => by have := h r m; omega) z
        have := h r m
        omega
    exact no 7
  · rw [e]
    obtain ⟨k, hk⟩ := Int.eq_ofNat_of_zero_le (show 0 ≤ cand l v r by omega)
    have k7 : k ≤ 7 := by
      have := rowsI_len r m
      unfold cand at hk
      repeat' split at hk
      all_goals omega
    have dn : ∀ n : Nat, k ≤ n → refN l v n = (r.2.1, cand l v r) := fun n => by
      induction n with
      | zero => intro z; omega
      | succ n ih =>
        intro z
        rw [refN]
        by_cases q : k = n + 1
        · have hh := hit_cand m (n := n + 1) (by omega) (by rw [hk, q])
          have f3 := (row_facts r m).2.2.1
          rw [hh, if_pos f3, hk, q]
        · rw [if_neg, ih (by omega)]
          intro z'
          obtain ⟨r', m', hc⟩ := hit_row (by omega) (fun r' m' => by have := h2 r' m'; omega) z'
          have := h2 r' m'
          omega
    exact dn 7 k7
/-- The names that want their semicolon. -/
def tens : List (List Int) := [[110, 111, 116, 105, 110], [101, 117, 114, 111], [104, 101, 108, 108, 105, 112], [109, 100, 97, 115, 104], [110, 100, 97, 115, 104], [97, 108, 112, 104, 97], [98, 101, 116, 97], [114, 97, 114, 114], [108, 97, 114, 114], [97, 112, 111, 115]]
theorem bl_of {s : ByteArray} {l : List UInt8} (h : s.toList = l) : bl s = l.map fun b => (b.toNat : Int) := by unfold bl; rw [← toList_data, h]
theorem loose_eq {x : List Int} : ∀ rs : List Row, (∀ r ∈ rs, r.2.2 = ((r.2.1 != 0) && !tens.contains r.1)) → looseI rs x = ((lookI rs x != 0) && !tens.contains x)
  | [], _ => rfl
  | r :: rs, h => by
    rw [looseI, lookI]
    by_cases q : r.1 = x
    · rw [if_pos q, if_pos q, h r (List.mem_cons_self ..), q]
    · rw [if_neg q, if_neg q]
      exact loose_eq rs fun r hr => h r (List.mem_cons_of_mem _ hr)
theorem loose_rows : ∀ r ∈ rowsI, r.2.2 = ((r.2.1 != 0) && !tens.contains r.1) := by decide +kernel
theorem look_map (x : List UInt8) : ∀ rs : List (List UInt8 × Int × Bool), lookI (rs.map fun p => (p.1.map (fun b => (b.toNat : Int)), p.2.1, p.2.2)) (x.map fun b => (b.toNat : Int)) = look (rs.map fun p => (p.1, p.2.1)) x
  | [] => rfl
  | r :: rs => by
    rw [List.map_cons, List.map_cons, lookI, look]
    simp only
    rw [look_map x rs]
    by_cases q : r.1 = x
    · rw [if_pos q, if_pos (by rw [q])]
    · rw [if_neg q, if_neg (fun z => q (map_inj8.1 z))]
theorem rname_bl (s : ByteArray) : Ev (fun k => rectoref04_Name.f k s) (lookI rowsI (bl s)) := Ev.cast (rname_ev s) (look_map s.data.toList rRefs).symm
theorem rloose_ev (s : ByteArray) : Ev (fun k => rectoref04_Loose.f k s) (looseI rowsI (bl s)) := by
  unfold rectoref04_Loose.f
  by_cases h0 : s.toList = ([110, 111, 116, 105, 110] : List UInt8)
  · exact Ev.ite_pos h0 (Ev.cast (Ev.now _) (by rw [bl_of h0]; decide +kernel))
  refine Ev.ite_neg h0 ?_
  by_cases h1 : s.toList = ([101, 117, 114, 111] : List UInt8)
  · exact Ev.ite_pos h1 (Ev.cast (Ev.now _) (by rw [bl_of h1]; decide +kernel))
  refine Ev.ite_neg h1 ?_
  by_cases h2 : s.toList = ([104, 101, 108, 108, 105, 112] : List UInt8)
  · exact Ev.ite_pos h2 (Ev.cast (Ev.now _) (by rw [bl_of h2]; decide +kernel))
  refine Ev.ite_neg h2 ?_
  by_cases h3 : s.toList = ([109, 100, 97, 115, 104] : List UInt8)
  · exact Ev.ite_pos h3 (Ev.cast (Ev.now _) (by rw [bl_of h3]; decide +kernel))
  refine Ev.ite_neg h3 ?_
  by_cases h4 : s.toList = ([110, 100, 97, 115, 104] : List UInt8)
  · exact Ev.ite_pos h4 (Ev.cast (Ev.now _) (by rw [bl_of h4]; decide +kernel))
  refine Ev.ite_neg h4 ?_
  by_cases h5 : s.toList = ([97, 108, 112, 104, 97] : List UInt8)
  · exact Ev.ite_pos h5 (Ev.cast (Ev.now _) (by rw [bl_of h5]; decide +kernel))
  refine Ev.ite_neg h5 ?_
  by_cases h6 : s.toList = ([98, 101, 116, 97] : List UInt8)
  · exact Ev.ite_pos h6 (Ev.cast (Ev.now _) (by rw [bl_of h6]; decide +kernel))
  refine Ev.ite_neg h6 ?_
  by_cases h7 : s.toList = ([114, 97, 114, 114] : List UInt8)
  · exact Ev.ite_pos h7 (Ev.cast (Ev.now _) (by rw [bl_of h7]; decide +kernel))
  refine Ev.ite_neg h7 ?_
  by_cases h8 : s.toList = ([108, 97, 114, 114] : List UInt8)
  · exact Ev.ite_pos h8 (Ev.cast (Ev.now _) (by rw [bl_of h8]; decide +kernel))
  refine Ev.ite_neg h8 ?_
  by_cases h9 : s.toList = ([97, 112, 111, 115] : List UInt8)
  · exact Ev.ite_pos h9 (Ev.cast (Ev.now _) (by rw [bl_of h9]; decide +kernel))
  refine Ev.ite_neg h9 ?_
  refine Ev.bind (rname_bl s) (Ev.cast (Ev.now _) ?_)
  rw [loose_eq rowsI loose_rows]
  have : tens.contains (bl s) = false := by
    rw [Bool.eq_false_iff]
    intro z
    simp only [tens, List.contains_cons, List.contains_nil, Bool.or_eq_true, beq_iff_eq, Bool.false_eq_true, or_false] at z
    have back : ∀ l : List UInt8, bl s = l.map (fun b => (b.toNat : Int)) → s.toList = l := fun l h => by rw [toList_data]; exact map_inj8.1 h
    rcases z with z | z | z | z | z | z | z | z | z | z
    · exact h0 (back _ z)
    · exact h1 (back _ z)
    · exact h2 (back _ z)
    · exact h3 (back _ z)
    · exact h4 (back _ z)
    · exact h5 (back _ z)
    · exact h6 (back _ z)
    · exact h7 (back _ z)
    · exact h8 (back _ z)
    · exact h9 (back _ z)
  rw [this]; simp

theorem rletter_f (b : Int) : rectoref03_Letter.f b = some (letB b) := letter_f b
theorem rdigit_f (b : Int) : rectoref03_Digit.f b = some (digB b) := digit_f b
/-- What the document answers, as a text and a place. -/
def gotN (i : Nat) (r : Int × Int) : ByteArray × Int := if r.2 = 0 then (⟨#[]⟩, -1) else (strOfNums (encB (orC r.1)), (i : Int) + r.2)
theorem rnamed_l0 {s : ByteArray} {i : Nat} {v : Bool} (hs : s.size ≤ 140737488355328) (hi : i ≤ s.size) : ∀ n : Nat, n ≤ 7 → Ev (fun k => rectoref04_named.l0 k s (i : Int) v (n : Int)) (gotN i (refN ((bl s).drop i) v n))
  | 0, _ => by
    refine Ev.step (fun k => by rw [rectoref04_named.l0]) ?_
    exact Ev.ite_neg (by decide) (Ev.now _)
  | n + 1, h7 => by
    have next := rnamed_l0 (v := v) hs hi n (by omega)
    have en : wrap64 (((n + 1 : Nat) : Int) - 1) = (n : Int) := by rw [w64 (by omega) (by omega)]; omega
    have es : wrap64 ((s.size : Int) - (i : Int)) = ((s.size - i : Nat) : Int) := by rw [w64 (by omega) (by omega)]; omega
    have ei : wrap64 ((i : Int) + ((n + 1 : Nat) : Int)) = ((i + (n + 1) : Nat) : Int) := by rw [w64 (by omega) (by omega)]; omega
    have hll : ((bl s).drop i).length = s.size - i := by rw [List.length_drop, bl_length]
    refine Ev.step (fun k => by rw [rectoref04_named.l0]) ?_
    rw [en, es, ei]
    refine Ev.ite_pos (by omega) ?_
    by_cases hl : n + 1 ≤ s.size - i
    · refine Ev.ite_neg (by omega) (Ev.ite_pos (by omega) (Ev.ite_pos (by omega) (Ev.ite_pos (by omega) (Ev.ite_pos (by omega) ?_))))
      rw [Int.toNat_natCast, Int.toNat_natCast, Int.toNat_natCast]
      have hw : bl (s.extract i (i + (n + 1))) = ((bl s).drop i).take (n + 1) := by rw [bl_extract, Nat.add_sub_cancel_left]
      have hws : (s.extract i (i + (n + 1))).size = n + 1 := by rw [← bl_length, hw, List.length_take, hll]; omega
      have hg : (bl s).getD (i + (n + 1)) (-1) = ((bl s).drop i).getD (n + 1) (-1) := (drop_getD ..).symm
      generalize s.extract i (i + (n + 1)) = w at hw hws ⊢
      have hb : bt w (n : Int) = ((bl s).drop i).getD n (-1) := by
        rw [bt_in (by omega), hw, List.getD_eq_getElem?_getD, List.getElem?_take_of_lt (by omega), ← List.getD_eq_getElem?_getD]
      have hw' : bl (w.extract 0 n) = ((bl s).drop i).take n := by
        rw [bl_extract, hw, List.drop_zero, Nat.sub_zero, List.take_take, Nat.min_eq_left (by omega)]
      generalize (bl s).drop i = l at next hll hw hb hw' hg ⊢
      have hh : hit l v (n + 1) = if l.getD n (-1) = 59 ∧ lookI rowsI (l.take n) ≠ 0 then lookI rowsI (l.take n) else if looseI rowsI (l.take (n + 1)) = true ∧ ¬ (v = true ∧ wordy (l.getD (n + 1) (-1)) = true) then lookI rowsI (l.take (n + 1)) else 0 := by
        unfold hit
        rw [if_pos (by omega), Nat.add_sub_cancel]
      have gp : hit l v (n + 1) ≠ 0 → gotN i (refN l v (n + 1)) = (strOfNums (encB (orC (hit l v (n + 1)))), ((i + (n + 1) : Nat) : Int)) := fun q => by
        unfold gotN
        rw [refN, if_pos q, if_neg (by simp only; omega)]
        simp only [Prod.mk.injEq, true_and]
        omega
      have gn : hit l v (n + 1) = 0 → gotN i (refN l v (n + 1)) = gotN i (refN l v n) := fun q => by rw [refN, if_neg (fun z => z q)]
      have J1 : ∀ b : Bool, (b = true ↔ l.getD n (-1) = 59 ∧ lookI rowsI (l.take n) ≠ 0) → Ev (fun k => rectoref04_named.j1 k s (i : Int) v ((n + 1 : Nat) : Int) w b) (gotN i (refN l v (n + 1))) := fun b hbb => by
        refine Ev.step (fun k => by rw [rectoref04_named.j1]) ?_
        rw [en, ei]
        by_cases q : b = true
        · have q' := hbb.1 q
          rw [if_pos q'] at hh
          refine Ev.ite_pos q (Ev.ite_pos (by omega) (Ev.ite_pos (by omega) ?_))
          rw [Int.toNat_natCast]
          refine Ev.bind (rname_bl _) (Ev.bind (refBytes_ev _) (Ev.cast (Ev.now _) ?_))
          rw [gp (by rw [hh]; exact q'.2), hh, hw']
        · rw [if_neg (fun z => q (hbb.2 z))] at hh
          refine Ev.ite_neg q (Ev.bind (Ev.pure fun _ => at_f s _) ?_)
          have hk : wordy (if i + (n + 1) < s.size then bt s ((i + (n + 1) : Nat) : Int) else 0) = wordy (l.getD (n + 1) (-1)) := by
            by_cases z : i + (n + 1) < s.size
            · rw [if_pos z, bt_in z, hg]
            · rw [if_neg z, getD_lt (l := l) (by omega)]; rfl
          generalize (if i + (n + 1) < s.size then bt s ((i + (n + 1) : Nat) : Int) else 0) = c at hk ⊢
          have J3 : ∀ b : Bool, (b = true ↔ looseI rowsI (l.take (n + 1)) = true ∧ ¬ (v = true ∧ wordy (l.getD (n + 1) (-1)) = true)) → Ev (fun k => rectoref04_named.j3 k s (i : Int) v ((n + 1 : Nat) : Int) w b) (gotN i (refN l v (n + 1))) := fun b hb3 => by
            refine Ev.step (fun k => by rw [rectoref04_named.j3]) ?_
            rw [en, ei]
            by_cases q3 : b = true
            · have q3' := hb3.1 q3
              rw [if_pos q3'] at hh
              have hne : lookI rowsI (l.take (n + 1)) ≠ 0 := by
                intro z
                have := loose_eq (x := l.take (n + 1)) rowsI loose_rows
                rw [q3'.1, z] at this
                simp at this
              refine Ev.ite_pos q3 (Ev.bind (rname_bl _) (Ev.bind (refBytes_ev _) (Ev.cast (Ev.now _) ?_)))
              rw [gp (by rw [hh]; exact hne), hh, hw]
            · rw [if_neg (fun z => q3 (hb3.2 z))] at hh
              rw [gn hh]
              exact Ev.ite_neg q3 next
          have J2 : ∀ b : Bool, (b = true ↔ (v = true ∧ wordy (l.getD (n + 1) (-1)) = true)) → Ev (fun k => rectoref04_named.j2 k s (i : Int) v ((n + 1 : Nat) : Int) w b) (gotN i (refN l v (n + 1))) := fun b hb2 => by
            refine Ev.step (fun k => by rw [rectoref04_named.j2]) (Ev.bind (rloose_ev w) ?_)
            rw [hw]
            by_cases q2 : looseI rowsI (l.take (n + 1)) = true
            · refine Ev.ite_pos q2 (J3 _ ?_)
              rw [← hb2, Bool.not_eq_true']
              exact ⟨fun z => ⟨q2, by rw [z]; decide⟩, fun z => Bool.eq_false_iff.2 z.2⟩
            · exact Ev.ite_neg q2 (J3 false ⟨fun z => absurd z (by decide), fun z => absurd z.1 q2⟩)
          by_cases hv : v = true
          · refine Ev.ite_pos hv ?_
            by_cases h61 : c = 61
            · refine Ev.ite_pos h61 (J2 true ⟨fun _ => ⟨hv, by rw [← hk, h61]; decide⟩, fun _ => rfl⟩)
            refine Ev.ite_neg h61 (Ev.bind (Ev.pure fun _ => rletter_f c) ?_)
            by_cases hlt : letB c = true
            · exact Ev.ite_pos hlt (J2 true ⟨fun _ => ⟨hv, by rw [← hk]; unfold wordy; rw [hlt]; simp⟩, fun _ => rfl⟩)
            · refine Ev.ite_neg hlt (Ev.bind (Ev.pure fun _ => rdigit_f c) (J2 _ ?_))
              have : wordy c = digB c := by unfold wordy; rw [decide_eq_false h61, Bool.eq_false_iff.2 hlt]; rfl
              rw [← hk, this]
              exact ⟨fun z => ⟨hv, z⟩, fun z => z.2⟩
          · exact Ev.ite_neg hv (J2 false ⟨fun z => absurd z (by decide), fun z => absurd z.1 hv⟩)
      refine Ev.ite_pos (by omega) ?_
      by_cases h59 : bt w (n : Int) = 59
      · refine Ev.ite_pos h59 (Ev.ite_pos (by omega) (Ev.bind (rname_bl _) (J1 _ ?_)))
        rw [hw', bne_iff_ne, ← hb]
        exact ⟨fun z => ⟨h59, z⟩, fun z => z.2⟩
      · exact Ev.ite_neg h59 (J1 false ⟨fun z => absurd z (by decide), fun z => absurd (hb ▸ z.1) h59⟩)
    · have hh : hit ((bl s).drop i) v (n + 1) = 0 := by unfold hit; rw [if_neg (by omega)]
      rw [refN, if_neg (fun z => z hh)]
      exact Ev.ite_pos (by omega) next
theorem rnamed_ev {s : ByteArray} {i : Nat} {v : Bool} (hs : s.size ≤ 140737488355328) (hi : i ≤ s.size) : Ev (fun k => rectoref04_named.f k s (i : Int) v) (gotN i (best ((bl s).drop i) v rowsI 0 0)) := by
  rw [← refN_best]
  exact rnamed_l0 hs hi 7 (Nat.le_refl _)
end Go.Proofs.YtenbdffgnbibeaaDoor.R
namespace Go.Proofs.YtenbdffgnbibeaaDoor.R
open Go.RowKit Go.Proofs.YtenbdffgnbibeaaDoorW.PrintWords Go.Proofs.YtenbdffgnbibeaaDoorW.PrintLast
set_option linter.unusedSimpArgs false

theorem rnumber_ev {s : ByteArray} {base : Int} {q f : Nat} (hb : base = 10 ∨ base = 16) (hs : s.size ≤ 140737488355328) (hq : q + f ≤ s.size) :
    Ev (fun k => rectoref04_number.f k s ((q + f : Nat) : Int) base) (gotN q (fin ((bl s).drop q) (f : Int) ((f + cnt base (((bl s).drop q).drop f) : Nat) : Int) (accP base (((bl s).drop q).drop f) 0))) := by
  unfold rectoref04_number.f
  refine Ev.cast (rnumber_l0 (fr := ((q + f : Nat) : Int)) hb hs (s.size - (q + f)) (q + f) 0 (by omega) (Int.le_refl _) (by decide)) ?_
  rw [List.drop_drop]
  generalize hc : cnt base ((bl s).drop (q + f)) = c
  unfold finR gotN fin
  by_cases h : c = 0
  · subst h
    rw [if_pos (by omega), if_pos (show (if ((f + 0 : Nat) : Int) = (f : Int) then ((0 : Int), (0 : Int)) else _).2 = 0 by rw [if_pos (by omega)])]
  · rw [if_neg (by omega), if_neg (show ¬ ((f + c : Nat) : Int) = (f : Int) by omega), drop_getD, Int.toNat_natCast, Int.toNat_natCast, Nat.add_assoc]
    simp only
    by_cases h59 : (bl s).getD (q + (f + c)) (-1) = 59
    · rw [if_pos h59, if_pos h59, if_neg (by omega), num_acc hb]
      simp only [Prod.mk.injEq, true_and]; omega
    · rw [if_neg h59, if_neg h59, if_neg (by omega), num_acc hb]
      simp only [Prod.mk.injEq, true_and]; omega
theorem fin_nn {l : List Int} {f : Nat} {c : Nat} {v : Int} : 0 ≤ (fin l (f : Int) ((f + c : Nat) : Int) v).2 := by
  unfold fin
  split
  · exact Int.le_refl _
  · simp only; split <;> omega
theorem gotN_neg {q : Nat} {r : Int × Int} (h : r.2 = 0) : gotN q r = (⟨#[]⟩, -1) := by unfold gotN; rw [if_pos h]
theorem gotN_pos {q : Nat} {r : Int × Int} (h : r.2 > 0) : gotN q r = (strOfNums (encB (orC r.1)), (q : Int) + r.2) := by unfold gotN; rw [if_neg (by omega)]
/-- What is answered behind a reference's beginning. -/
theorem got_or {q : Nat} {r : Int × Int} {x : ByteArray × Int} {A : Nat → Option (ByteArray × Int)} (h0 : 0 ≤ r.2) (h : Ev A (gotN q r)) :
    Ev (fun k => (A k).bind fun g => if g.2 ≥ 0 then some (g.1, g.2) else some x) (if r.2 > 0 then (strOfNums (encB (orC r.1)), (q : Int) + r.2) else x) := by
  by_cases c : r.2 > 0
  · rw [gotN_pos c] at h
    rw [if_pos c]
    exact Ev.bind h (Ev.ite_pos (show (q : Int) + r.2 ≥ 0 by omega) (Ev.now _))
  · rw [gotN_neg (show r.2 = 0 by omega)] at h
    rw [if_neg c]
    exact Ev.bind h (Ev.ite_neg (show ¬ (-1 : Int) ≥ 0 by decide) (Ev.now _))
theorem rAt_in {s : ByteArray} {i : Nat} {v : Bool} (hs : s.size ≤ 140737488355328) (hi : i < s.size) : Ev (fun k => rectoref04_At.f k s (i : Int) v) (strOfNums (atL ((bl s).drop i) v).1, (i : Int) + (atL ((bl s).drop i) v).2) := by
  have hb : bt s (i : Int) = ((bl s).drop i).getD 0 (-1) := by rw [bt_in hi, drop_getD, Nat.add_zero]
  have hne : (bl s).drop i ≠ [] := by rw [drop_at hi]; exact List.cons_ne_nil _ _
  unfold rectoref04_At.f
  refine Ev.ite_neg (by omega) (Ev.step (fun k => by rw [rectoref04_At.j0]) ?_)
  refine Ev.ite_neg (by rw [decide_eq_true_eq]; omega) (Ev.ite_pos (by omega) (Ev.ite_pos (by omega) ?_))
  have e1 : wrap64 ((i : Int) + 1) = ((i + 1 : Nat) : Int) := by rw [w64 (by omega) (by omega)]; rfl
  have e2 : wrap64 ((i : Int) + 2) = ((i + 2 : Nat) : Int) := by rw [w64 (by omega) (by omega)]; rfl
  have e3 : wrap64 ((i : Int) + 3) = ((i + 3 : Nat) : Int) := by rw [w64 (by omega) (by omega)]; rfl
  rw [e1, e2]
  by_cases h38 : bt s (i : Int) = 38
  · refine Ev.ite_pos h38 (Ev.bind (Ev.pure fun _ => at_f s (i + 1)) ?_)
    have ad : ∀ j, (bl s).getD (i + j) (-1) = ((bl s).drop i).getD j (-1) := fun j => (drop_getD ..).symm
    by_cases h35 : (if i + 1 < s.size then bt s ((i + 1 : Nat) : Int) else 0) = 35
    · have g35 := (at_is (by decide)).1 h35
      have h1 := getD_m1 g35 (by decide)
      rw [bl_length] at h1
      refine Ev.ite_pos h35 (Ev.bind (Ev.pure fun _ => at_f s (i + 2)) ?_)
      have ha : (strOfNums (atL ((bl s).drop i) v).1, (i : Int) + (atL ((bl s).drop i) v).2) = if (numL ((bl s).drop (i + 2))).2 > 0 then (strOfNums (encB (orC (numL ((bl s).drop (i + 2))).1)), ((i + 2 : Nat) : Int) + (numL ((bl s).drop (i + 2))).2) else ((⟨#[38]⟩ : ByteArray), ((i + 1 : Nat) : Int)) := by
        unfold atL
        rw [if_pos (hb ▸ h38), if_pos (by rw [← ad]; exact g35), List.drop_drop]
        by_cases q : (numL ((bl s).drop (i + 2))).2 > 0
        · rw [if_pos q, if_pos q]; simp only [Prod.mk.injEq, true_and]; omega
        · rw [if_neg q, if_neg q]; rfl
      rw [ha]
      have J : ∀ b : Bool, (b = true ↔ ((bl s).drop (i + 2)).getD 0 (-1) = 120 ∨ ((bl s).drop (i + 2)).getD 0 (-1) = 88) → Ev (fun k => rectoref04_At.j1 k s (i : Int) b (⟨#[38]⟩ : ByteArray) ((i + 1 : Nat) : Int)) (if (numL ((bl s).drop (i + 2))).2 > 0 then (strOfNums (encB (orC (numL ((bl s).drop (i + 2))).1)), ((i + 2 : Nat) : Int) + (numL ((bl s).drop (i + 2))).2) else ((⟨#[38]⟩ : ByteArray), ((i + 1 : Nat) : Int))) := fun b hbb => by
        refine Ev.step (fun k => by rw [rectoref04_At.j1]) ?_
        rw [e2, e3]
        by_cases q : b = true
        · have hx := hbb.1 q
          have h2 : i + 2 < s.size := by
            have : 0 < ((bl s).drop (i + 2)).length := by rcases hx with z | z <;> exact getD_m1 z (by decide)
            rw [List.length_drop, bl_length] at this
            omega
          have en : numL ((bl s).drop (i + 2)) = fin ((bl s).drop (i + 2)) ((1 : Nat) : Int) ((1 + cnt 16 (((bl s).drop (i + 2)).drop 1) : Nat) : Int) (accP 16 (((bl s).drop (i + 2)).drop 1) 0) := by
            unfold numL; rw [if_pos hx]; rfl
          rw [en]
          exact Ev.ite_pos q (got_or fin_nn (rnumber_ev (q := i + 2) (f := 1) (Or.inr rfl) hs (by omega)))
        · have hx := fun z => q (hbb.2 z)
          have en : numL ((bl s).drop (i + 2)) = fin ((bl s).drop (i + 2)) ((0 : Nat) : Int) ((0 + cnt 10 (((bl s).drop (i + 2)).drop 0) : Nat) : Int) (accP 10 (((bl s).drop (i + 2)).drop 0) 0) := by
            unfold numL; rw [if_neg hx, List.drop_zero, Nat.zero_add]; rfl
          rw [en]
          exact Ev.ite_neg q (got_or fin_nn (rnumber_ev (q := i + 2) (f := 0) (Or.inl rfl) hs (by omega)))
      have d0 : ((bl s).drop (i + 2)).getD 0 (-1) = (bl s).getD (i + 2) (-1) := by rw [drop_getD, Nat.add_zero]
      by_cases h120 : (if i + 2 < s.size then bt s ((i + 2 : Nat) : Int) else 0) = 120
      · exact Ev.ite_pos h120 (J true ⟨fun _ => Or.inl (by rw [d0]; exact (at_is (by decide)).1 h120), fun _ => rfl⟩)
      · refine Ev.ite_neg h120 (J _ ?_)
        rw [beq_iff_eq, at_is (by decide), d0]
        exact ⟨Or.inr, fun z => z.resolve_left fun z => h120 ((at_is (by decide)).2 z)⟩
    · refine Ev.ite_neg h35 ?_
      have ha : (strOfNums (atL ((bl s).drop i) v).1, (i : Int) + (atL ((bl s).drop i) v).2) = if (best ((bl s).drop (i + 1)) v rowsI 0 0).2 > 0 then (strOfNums (encB (orC (best ((bl s).drop (i + 1)) v rowsI 0 0).1)), ((i + 1 : Nat) : Int) + (best ((bl s).drop (i + 1)) v rowsI 0 0).2) else ((⟨#[38]⟩ : ByteArray), ((i + 1 : Nat) : Int)) := by
        unfold atL
        rw [if_pos (hb ▸ h38), if_neg (by rw [← ad]; exact fun z => h35 ((at_is (by decide)).2 z)), List.drop_drop]
        by_cases q : (best ((bl s).drop (i + 1)) v rowsI 0 0).2 > 0
        · rw [if_pos q, if_pos q]; simp only [Prod.mk.injEq, true_and]; omega
        · rw [if_neg q, if_neg q]; rfl
      rw [ha]
      exact got_or (best_le _ v rowsI 0 0 (Int.le_refl _) (by omega)).1 (rnamed_ev hs (by omega))
  · have hl := dec_len hne
    rw [List.length_drop, bl_length] at hl
    refine Ev.ite_neg h38 (Ev.bind (at_ev hi hs) (Ev.bind (refBytes_ev _) (Ev.cast (Ev.now _) ?_)))
    have ha : atL ((bl s).drop i) v = (encB (decL ((bl s).drop i)).1, (decL ((bl s).drop i)).2.1) := by unfold atL; rw [if_neg (hb ▸ h38)]
    have hc : orC (decL ((bl s).drop i)).1 = (decL ((bl s).drop i)).1 := by unfold orC; rw [if_pos (dec_isC ((byt_bl s).drop i |>.head hne))]
    rw [ha, hc, w64 (by omega) (by omega)]
/-- Outside of the text: nothing, and the text's end. -/
theorem refAt_out {s : ByteArray} {i : Int} {v : Bool} (h : i < 0 ∨ (s.size : Int) ≤ i) : Ev (fun k => refs_At.f k s i v) ((⟨#[]⟩ : ByteArray), (s.size : Int)) := by
  unfold refs_At.f
  by_cases q : i < 0
  · exact Ev.ite_pos q (Ev.step (fun k => by rw [refs_At.j0]) (Ev.ite_pos rfl (Ev.now _)))
  · exact Ev.ite_neg q (Ev.step (fun k => by rw [refs_At.j0]) (Ev.ite_pos (by rw [decide_eq_true_eq]; omega) (Ev.now _)))
theorem rAt_out {s : ByteArray} {i : Int} {v : Bool} (h : i < 0 ∨ (s.size : Int) ≤ i) : Ev (fun k => rectoref04_At.f k s i v) ((⟨#[]⟩ : ByteArray), (s.size : Int)) := by
  unfold rectoref04_At.f
  by_cases q : i < 0
  · exact Ev.ite_pos q (Ev.step (fun k => by rw [rectoref04_At.j0]) (Ev.ite_pos rfl (Ev.now _)))
  · exact Ev.ite_neg q (Ev.step (fun k => by rw [rectoref04_At.j0]) (Ev.ite_pos (by rw [decide_eq_true_eq]; omega) (Ev.now _)))
end Go.Proofs.YtenbdffgnbibeaaDoor.R
