/- Characters, plainly: kinds of bytes, what comes in made ready. -/
import Derived.Test.YtdoapeandigooaaDoorCPureRepl
import Derived.Test.YtdoapeandigooaaDoorCPureRefClean
import Derived.Test.YtdoapeandigooaaDoorC3
import Derived.Test.YtdoapeandigooaaDoorC4
import Derived.Test.YtdoapeandigooaaDoorC5
import Derived.Test.YtdoapeandigooaaDoorC7
namespace Go.Proofs.YtdoapeandigooaaDoor.C
open Go.RowKit Go.Proofs.YtdoapeandigooaaDoorW.PrintWords Go.Proofs.YtdoapeandigooaaDoorW.PrintLast
set_option linter.unusedSimpArgs false

def spB (b : Int) : Bool := decide (b = 9) || decide (b = 10) || decide (b = 12) || decide (b = 32)
theorem spB_iff {b : Int} : spB b = true ↔ b = 9 ∨ b = 10 ∨ b = 12 ∨ b = 32 := by unfold spB; simp only [Bool.or_eq_true, decide_eq_true_eq]; omega
theorem space_f (b : Int) : chars_Space.f b = some (spB b) := by
  unfold chars_Space.f spB
  repeat' split
  all_goals (congr 1; rw [Bool.eq_iff_iff]; simp; try omega)
theorem rspace_f (b : Int) : rectoref03_Space.f b = some (spB b) := space_f b
def ltB (b : Int) : Bool := (decide (65 ≤ b) && decide (b ≤ 90)) || (decide (97 ≤ b) && decide (b ≤ 122))
theorem ltB_iff {b : Int} : ltB b = true ↔ (65 ≤ b ∧ b ≤ 90) ∨ (97 ≤ b ∧ b ≤ 122) := by unfold ltB; simp
theorem letter_f (b : Int) : chars_Letter.f b = some (ltB b) := by
  unfold chars_Letter.f ltB
  repeat' split
  all_goals (congr 1; rw [Bool.eq_iff_iff]; simp; omega)
theorem rletter_f (b : Int) : rectoref03_Letter.f b = some (ltB b) := letter_f b
theorem ends_ev : Ev (fun k => rectolaw03_ends.f k) true := Ev.of (k := 64) rectolaw03_ends.mono (by kernel_rfl)
/-- What comes in, made ready, not cleaned yet. -/
def rdy : List Int → List Int
  | [] => []
  | b :: l => if b = 0 then [239, 191, 189] ++ rdy l else if b = 13 then (if l.getD 0 (-1) = 10 then rdy l else 10 :: rdy l) else b :: rdy l
theorem rdy_13 {l : List Int} (h : ¬ l.getD 0 (-1) = 10) : rdy (13 :: l) = 10 :: rdy l := by rw [rdy, if_neg (by decide), if_pos rfl, if_neg h]
theorem three_eq : ∀ (n : Nat) (l : List Int), l.length ≤ n → fl 0 [239, 191, 189] (fl 13 [10] (prS 13 10 [10] false l)) = rdy l
  | _, [], _ => rfl
  | 0, b :: l, h => by simp at h
  | n + 1, b :: l, h => by
    rw [List.length_cons] at h
    by_cases q : b = 13 ∧ l.getD 0 (-1) = 10
    · obtain ⟨rfl, h1⟩ := q
      cases l with
      | nil => simp at h1
      | cons d t =>
        obtain rfl : d = 10 := h1
        rw [pr_hit, List.singleton_append, fl_cons, if_neg (by decide), List.singleton_append, fl_cons, if_neg (by decide), List.singleton_append, three_eq n t (by rw [List.length_cons] at h; omega)]
        rw [rdy, if_neg (by decide), if_pos rfl, if_pos (show ((10 : Int) :: t).getD 0 (-1) = 10 from rfl), rdy, if_neg (by decide), if_neg (by decide)]
    · rw [pr_miss q, fl_cons]
      by_cases h13 : b = 13
      · rw [if_pos h13, List.singleton_append, fl_cons, if_neg (by decide), List.singleton_append, three_eq n l (by omega), h13, rdy_13 fun z => q ⟨h13, z⟩]
      · rw [if_neg h13, List.singleton_append, fl_cons, three_eq n l (by omega), rdy]
        by_cases h0 : b = 0
        · rw [if_pos h0, if_pos h0]
        · rw [if_neg h0, if_neg h0, if_neg h13]; rfl
theorem rdy_len : ∀ l : List Int, (rdy l).length ≤ 3 * l.length
  | [] => Nat.le_refl _
  | b :: l => by
    have := rdy_len l
    rw [rdy]
    repeat' split
    all_goals simp only [List.length_append, List.length_cons, List.length_nil]
    all_goals omega
theorem rdy_byt : ∀ l : List Int, Byt l → Byt (rdy l)
  | [], h => h
  | b :: l, h => by
    have ih := rdy_byt l fun x hx => h x (List.mem_cons_of_mem _ hx)
    have hb := h b (List.mem_cons_self ..)
    have J : ∀ a : List Int, (∀ x ∈ a, 0 ≤ x ∧ x ≤ 255) → Byt (a ++ rdy l) := fun a ha x hx => (List.mem_append.1 hx).elim (ha x) (ih x)
    rw [rdy]
    repeat' split
    · exact J _ (by decide)
    · exact ih
    · exact J [10] (by decide)
    · exact J [b] fun x hx => by rw [List.mem_singleton.1 hx]; exact hb
theorem rdy_no : ∀ l : List Int, ∀ x ∈ rdy l, x ≠ 0 ∧ x ≠ 13
  | [], x, hx => by cases hx
  | b :: l, x, hx => by
    have ih := rdy_no l
    have J : ∀ a : List Int, (∀ x ∈ a, x ≠ 0 ∧ x ≠ 13) → ∀ x ∈ a ++ rdy l, x ≠ 0 ∧ x ≠ 13 := fun a ha x hx => (List.mem_append.1 hx).elim (ha x) (ih x)
    rw [rdy] at hx
    by_cases h0 : b = 0
    · rw [if_pos h0] at hx; exact J _ (by decide) x hx
    rw [if_neg h0] at hx
    by_cases h13 : b = 13
    · rw [if_pos h13] at hx
      split at hx
      · exact ih x hx
      · exact J [10] (by decide) x hx
    · rw [if_neg h13] at hx
      exact J [b] (fun y hy => by rw [List.mem_singleton.1 hy]; exact ⟨h0, h13⟩) x hx
theorem rdy_id : ∀ l : List Int, (∀ x ∈ l, x ≠ 0 ∧ x ≠ 13) → rdy l = l
  | [], _ => rfl
  | b :: l, h => by
    have hb := h b (List.mem_cons_self ..)
    rw [rdy, if_neg hb.1, if_neg hb.2, rdy_id l fun x hx => h x (List.mem_cons_of_mem _ hx)]
theorem clean_no : ∀ l : List Int, Byt l → (∀ x ∈ l, x ≠ 0 ∧ x ≠ 13) → ∀ x ∈ cleanL l, x ≠ 0 ∧ x ≠ 13 := by
  refine along (P := fun l => Byt l → (∀ x ∈ l, x ≠ 0 ∧ x ≠ 13) → ∀ x ∈ cleanL l, x ≠ 0 ∧ x ≠ 13) ?_ ?_
  · intro _ _ x hx; cases hx
  · intro l hl ih hb hn x hx
    rw [clean_cons hl] at hx
    rcases List.mem_append.1 hx with hx | hx
    · by_cases ok : (decL l).2.2 = true
      · rw [← (dec_true (hb.head hl) ok).1] at hx
        exact hn x (List.mem_of_mem_take hx)
      · rw [dec_false (hb.head hl) (Bool.eq_false_iff.2 ok)] at hx
        have : x ∈ ([239, 191, 189] : List Int) := hx
        simp only [List.mem_cons, List.not_mem_nil, or_false] at this
        omega
    · exact ih (hb.drop _) (fun y hy => hn y (List.mem_of_mem_drop hy)) x hx
/-- The program's. -/
theorem ready_ev {s : ByteArray} (hs : s.size ≤ 4000) : Ev (fun k => chars_Ready.f k s) (strOfNums (cleanL (rdy (bl s))), (0 : Int)) := by
  unfold chars_Ready.f
  obtain ⟨r1, e1, b1⟩ := ra2 (s := s) (q := ⟨#[10]⟩) (a := 13) (b := 10) (by omega) (by decide) (by decide)
  have l1 : r1.size ≤ 1 * s.size := by rw [← bl_length, b1, ← bl_length s]; exact pr_len (by decide) (by decide) _ _
  obtain ⟨r2, e2, b2⟩ := ra1 (s := r1) (q := ⟨#[10]⟩) (c := 13) (by omega) (by decide) (by decide)
  have l2 : r2.size ≤ 1 * r1.size := by rw [← bl_length, b2, ← bl_length r1]; exact fl_len (by decide) (by decide) _
  obtain ⟨r3, e3, b3⟩ := ra1 (s := r2) (q := strOfNums (encB (orC 65533))) (c := 0) (by omega) (by decide) (by decide)
  have l3 : r3.size ≤ 3 * r2.size := by rw [← bl_length, b3, ← bl_length r2]; exact fl_len (by decide) (by decide) _
  have eq : bl r3 = rdy (bl s) := by rw [b3, b2, b1, ← three_eq _ _ (Nat.le_refl _)]; rfl
  refine Ev.ite_neg (by omega) (Ev.bind (Ev.pure fun _ => e1) (Ev.bind (Ev.pure fun _ => e2) (Ev.bind (bytes_ev 65533) (Ev.bind (Ev.pure fun _ => e3) (Ev.bind (clean_ev (by omega)) (Ev.cast (Ev.now _) ?_))))))
  rw [eq]
theorem ready_long {s : ByteArray} (hs : s.size > 4000) : Ev (fun k => chars_Ready.f k s) ((⟨#[]⟩ : ByteArray), (2 : Int)) := by
  unfold chars_Ready.f
  exact Ev.ite_pos (by omega) (Ev.now _)
theorem bl_at {s : ByteArray} {i : Nat} (h : i < s.size) : (bl s).drop i = bt s (i : Int) :: (bl s).drop (i + 1) := by
  have hi : i < (bl s).length := by rw [bl_length]; exact h
  rw [List.drop_eq_getElem_cons hi, bt_of rfl hi, List.getD_eq_getElem?_getD, List.getElem?_eq_getElem hi]; rfl
theorem cut_one {s : ByteArray} {i : Nat} (h : i < s.size) : s.extract i (i + 1) = strOfNums [bt s (i : Int)] := bl_inj (by
  rw [bl_extract, bl_at h, Nat.add_sub_cancel_left, List.take_succ_cons, List.take_zero, bl_strOfNums]
  intro x hx
  rw [List.mem_singleton.1 hx]
  exact bt_range _ _)
theorem bl_app_nums (x : ByteArray) (a : List Int) (h : ∀ y ∈ a, 0 ≤ y ∧ y ≤ 255) : bl (x ++ strOfNums a) = bl x ++ a := by rw [bl_append, bl_strOfNums h]
theorem size_nums (a : List Int) : (strOfNums a).size = a.length := by rw [size_length]; show (a.map _).length = _; rw [List.length_map]
theorem rready_l {s : ByteArray} (hs : s.size ≤ 4000) : ∀ (n i : Nat) (out : ByteArray), s.size - i ≤ n → i ≤ s.size → out.size + 3 * (s.size - i) ≤ 12000 →
    Ev (fun k => rectoref03_Ready.l0 k s out (i : Int)) (strOfNums (cleanL (bl out ++ rdy ((bl s).drop i))), (0 : Int)) := by
  have fin : ∀ (i : Nat) (out : ByteArray), i = s.size → out.size ≤ 12000 → Ev (fun k => rectoref03_Ready.l0 k s out (i : Int)) (strOfNums (cleanL (bl out ++ rdy ((bl s).drop i))), (0 : Int)) := fun i out hi ho => by
    refine Ev.step (fun k => by rw [rectoref03_Ready.l0]) (Ev.ite_neg (by omega) (Ev.bind (refClean_ev (by omega)) (Ev.cast (Ev.now _) ?_)))
    rw [List.drop_eq_nil_of_le (by rw [bl_length]; omega), rdy, List.append_nil]
  intro n
  induction n with
  | zero => intro i out h hi ho; exact fin i out (by omega) (by omega)
  | succ n ih =>
    intro i out h hi ho
    by_cases q : i = s.size
    · exact fin i out q (by omega)
    have hlt : i < s.size := by omega
    refine Ev.step (fun k => by rw [rectoref03_Ready.l0]) ?_
    have e1 : wrap64 ((i : Int) + 1) = ((i + 1 : Nat) : Int) := by rw [w64 (by omega) (by omega)]; rfl
    rw [e1, bl_at hlt]
    have hb := bt_range s (i : Int)
    have go : ∀ a : List Int, a.length ≤ 3 → (∀ y ∈ a, 0 ≤ y ∧ y ≤ 255) → Ev (fun k => rectoref03_Ready.l0 k s (out ++ strOfNums a) ((i + 1 : Nat) : Int)) (strOfNums (cleanL (bl out ++ (a ++ rdy ((bl s).drop (i + 1))))), (0 : Int)) := fun a ha hy => by
      have := ih (i + 1) (out ++ strOfNums a) (by omega) (by omega) (by rw [ByteArray.size_append, size_nums]; omega)
      rwa [bl_app_nums _ _ hy, List.append_assoc] at this
    have go0 : Ev (fun k => rectoref03_Ready.l0 k s out ((i + 1 : Nat) : Int)) (strOfNums (cleanL (bl out ++ rdy ((bl s).drop (i + 1)))), (0 : Int)) := ih (i + 1) out (by omega) (by omega) (by omega)
    refine Ev.ite_pos (by omega) (Ev.ite_pos (by omega) ?_)
    generalize hR : rdy (bt s (i : Int) :: (bl s).drop (i + 1)) = R
    rw [rdy] at hR
    by_cases h0 : bt s (i : Int) = 0
    · rw [if_pos h0] at hR
      subst hR
      refine Ev.ite_pos h0 (Ev.bind (refBytes_ev 65533) (Ev.ite_pos (by rw [size_nums]; have : (encB (orC 65533)).length = 3 := rfl; omega) ?_))
      exact go [239, 191, 189] (by decide) (by decide)
    rw [if_neg h0] at hR
    refine Ev.ite_neg h0 ?_
    by_cases h13 : bt s (i : Int) = 13
    · rw [if_pos h13] at hR
      refine Ev.ite_pos h13 ?_
      by_cases hn : i + 1 < s.size
      · have hd : ((bl s).drop (i + 1)).getD 0 (-1) = bt s ((i + 1 : Nat) : Int) := by rw [bl_at hn]; rfl
        rw [hd] at hR
        refine Ev.ite_neg (by omega) (Ev.ite_pos (by omega) (Ev.ite_pos (by omega) ?_))
        by_cases h10 : bt s ((i + 1 : Nat) : Int) = 10
        · rw [if_pos h10] at hR
          subst hR
          exact Ev.ite_pos h10 go0
        · rw [if_neg h10] at hR
          subst hR
          exact Ev.ite_neg h10 (Ev.ite_pos (by omega) (go [10] (by decide) (by decide)))
      · rw [List.drop_eq_nil_of_le (show (bl s).length ≤ i + 1 by rw [bl_length]; omega), if_neg (by decide)] at hR
        subst hR
        have := go [10] (by decide) (by decide)
        rw [List.drop_eq_nil_of_le (show (bl s).length ≤ i + 1 by rw [bl_length]; omega)] at this
        exact Ev.ite_pos (by omega) (Ev.ite_pos (by omega) this)
    · rw [if_neg h13] at hR
      subst hR
      refine Ev.ite_neg h13 (Ev.ite_pos (by omega) (Ev.ite_pos (by omega) ?_))
      rw [Int.toNat_natCast, Int.toNat_natCast, cut_one hlt]
      exact Ev.ite_pos (by rw [size_nums]; simp only [List.length_cons, List.length_nil]; omega) (go [bt s (i : Int)] (by simp) (fun y hy => by rw [List.mem_singleton.1 hy]; exact hb))
/-- The document's. -/
theorem rready_ev {s : ByteArray} (hs : s.size ≤ 4000) : Ev (fun k => rectoref03_Ready.f k s) (strOfNums (cleanL (rdy (bl s))), (0 : Int)) := by
  unfold rectoref03_Ready.f
  exact Ev.ite_neg (by omega) (rready_l hs s.size 0 ⟨#[]⟩ (by omega) (by omega) (by show 0 + _ ≤ _; omega))
end Go.Proofs.YtdoapeandigooaaDoor.C
