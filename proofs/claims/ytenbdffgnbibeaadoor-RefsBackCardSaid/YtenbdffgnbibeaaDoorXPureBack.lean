/- References, plainly: what was escaped is, all of it, the text cleaned. -/
import Derived.Test.YtenbdffgnbibeaaDoorXPureEsc
import Derived.Test.YtenbdffgnbibeaaDoorXPureRefAll
namespace Go.Proofs.YtenbdffgnbibeaaDoor.X
open Go.RowKit Go.Proofs.YtenbdffgnbibeaaDoorW.PrintWords Go.Proofs.YtenbdffgnbibeaaDoorW.PrintLast
set_option linter.unusedSimpArgs false

theorem b_amp (E : List Int) (v : Bool) : best ([97, 109, 112, 59] ++ E) v rowsI 0 0 = (38, 4) := by simp [best, cand, rowsI, rRefs]
theorem b_lt (E : List Int) (v : Bool) : best ([108, 116, 59] ++ E) v rowsI 0 0 = (60, 3) := by simp [best, cand, rowsI, rRefs]
theorem b_gt (E : List Int) (v : Bool) : best ([103, 116, 59] ++ E) v rowsI 0 0 = (62, 3) := by simp [best, cand, rowsI, rRefs]
theorem b_quot (E : List Int) (v : Bool) : best ([113, 117, 111, 116, 59] ++ E) v rowsI 0 0 = (34, 5) := by simp [best, cand, rowsI, rRefs]
theorem b_nbsp (E : List Int) (v : Bool) : best ([110, 98, 115, 112, 59] ++ E) v rowsI 0 0 = (160, 5) := by simp [best, cand, rowsI, rRefs]
theorem at_named {nm E : List Int} {v : Bool} {c n : Int} (h35 : (nm ++ E).getD 0 (-1) ≠ 35) (hb : best (nm ++ E) v rowsI 0 0 = (c, n)) (hn : 0 < n) : atL (38 :: nm ++ E) v = (encB (orC c), 1 + n) := by
  unfold atL
  rw [if_pos (show (38 :: nm ++ E).getD 0 (-1) = 38 from rfl), if_neg (show ¬ (38 :: nm ++ E).getD 1 (-1) = 35 from h35), show (38 :: nm ++ E).drop 1 = nm ++ E from rfl, hb, if_pos hn]
/-- The bytes that go on, at a text's beginning. -/
def run (l : List Int) : List Int := l.takeWhile ct
theorem run_cons {b : Int} {l : List Int} : run (b :: l) = if ct b = true then b :: run l else [] := by
  unfold run
  by_cases h : ct b = true
  · rw [List.takeWhile_cons_of_pos h, if_pos h]
  · rw [List.takeWhile_cons_of_neg h, if_neg h]
theorem dec_1 {x0 x1 x2 x3 : Int} (h : ¬ ct x1 = true) : dec x0 x1 x2 x3 = dec x0 (-1) (-1) (-1) := by
  unfold dec
  simp only [if_neg h, if_neg ct_m1]
theorem dec_2 {x0 x1 x2 x3 : Int} (h : ¬ ct x2 = true) : dec x0 x1 x2 x3 = dec x0 x1 (-1) (-1) := by
  unfold dec
  simp only [if_neg h, if_neg ct_m1]
theorem dec_3 {x0 x1 x2 x3 : Int} (h : ¬ ct x3 = true) : dec x0 x1 x2 x3 = dec x0 x1 x2 (-1) := by
  unfold dec
  simp only [if_neg h, if_neg ct_m1]
theorem dec_run (b : Int) (r : List Int) : decL (b :: r) = decL (b :: run r) := by
  show dec b (r.getD 0 (-1)) (r.getD 1 (-1)) (r.getD 2 (-1)) = dec b ((run r).getD 0 (-1)) ((run r).getD 1 (-1)) ((run r).getD 2 (-1))
  match r with
  | [] => rfl
  | x :: r =>
    rw [run_cons]
    by_cases hx : ct x = true
    · rw [if_pos hx]
      show dec b x (r.getD 0 (-1)) (r.getD 1 (-1)) = dec b x ((run r).getD 0 (-1)) ((run r).getD 1 (-1))
      match r with
      | [] => rfl
      | y :: r =>
        rw [run_cons]
        by_cases hy : ct y = true
        · rw [if_pos hy]
          show dec b x y (r.getD 0 (-1)) = dec b x y ((run r).getD 0 (-1))
          match r with
          | [] => rfl
          | z :: r =>
            rw [run_cons]
            by_cases hz : ct z = true
            · rw [if_pos hz]; rfl
            · rw [if_neg hz]; exact dec_3 hz
        · rw [if_neg hy]; exact dec_2 hy
    · rw [if_neg hx]; exact dec_1 hx
theorem not_ct {b : Int} (h : b = 38 ∨ b = 60 ∨ b = 62 ∨ b = 34 ∨ b = 194) : ¬ ct b = true := by
  rw [ct_iff]; omega
theorem esc_ct {v : Bool} {b : Int} {l : List Int} (h : ct b = true) : escS v false (b :: l) = b :: escS v false l := by
  have := ct_iff.1 h
  rw [escS, if_neg (by omega), if_neg (by omega), if_neg (by omega), if_neg (by omega), if_neg (by omega)]
theorem run_esc (v : Bool) : ∀ l : List Int, run (escS v false l) = run l
  | [] => rfl
  | b :: l => by
    by_cases h : ct b = true
    · rw [esc_ct h, run_cons, run_cons, if_pos h, if_pos h, run_esc v l]
    · rw [run_cons, if_neg h, escS]
      have n38 : ¬ ct 38 = true := by decide
      have amp : ∀ a t : List Int, run (38 :: a ++ t) = [] := fun a t => by rw [List.cons_append, run_cons, if_neg n38]
      repeat' split
      all_goals first
        | exact amp _ _
        | rw [run_cons, if_neg h]
theorem esc_drop (v : Bool) : ∀ (m : Nat) (l : List Int), m ≤ (run l).length → (escS v false l).drop m = escS v false (l.drop m)
  | 0, _, _ => rfl
  | m + 1, [], _ => by simp [escS]
  | m + 1, b :: l, h => by
    rw [run_cons] at h
    by_cases q : ct b = true
    · rw [if_pos q, List.length_cons] at h
      rw [esc_ct q, List.drop_succ_cons, List.drop_succ_cons]
      exact esc_drop v m l (by omega)
    · rw [if_neg q] at h; simp at h
theorem esc_no (v : Bool) : ∀ (f : Bool) (l : List Int), ∀ x ∈ escS v f l, x ≠ 60 ∧ x ≠ 62 ∧ ¬ (v = true ∧ x = 34)
  | true, [] => fun x hx => by cases hx
  | false, [] => fun x hx => by cases hx
  | true, b :: l => by rw [escS]; exact esc_no v false l
  | false, b :: l => by
    have h1 := esc_no v false l
    have h2 := esc_no v true l
    have J : ∀ (a t : List Int), (∀ x ∈ a, x ≠ 60 ∧ x ≠ 62 ∧ x ≠ 34) → (∀ x ∈ t, x ≠ 60 ∧ x ≠ 62 ∧ ¬ (v = true ∧ x = 34)) → ∀ x ∈ a ++ t, x ≠ 60 ∧ x ≠ 62 ∧ ¬ (v = true ∧ x = 34) := fun a t ha ht x hx =>
      (List.mem_append.1 hx).elim (fun z => ⟨(ha x z).1, (ha x z).2.1, fun y => (ha x z).2.2 y.2⟩) (ht x)
    rw [escS]
    by_cases a1 : b = 38
    · rw [if_pos a1]; exact J _ _ (by decide) h1
    rw [if_neg a1]
    by_cases a2 : b = 60
    · rw [if_pos a2]; exact J _ _ (by decide) h1
    rw [if_neg a2]
    by_cases a3 : b = 62
    · rw [if_pos a3]; exact J _ _ (by decide) h1
    rw [if_neg a3]
    by_cases a4 : b = 34 ∧ v = true
    · rw [if_pos a4]; exact J _ _ (by decide) h1
    rw [if_neg a4]
    split
    · exact J _ _ (by decide) h2
    · intro x hx
      rcases List.mem_cons.1 hx with rfl | hx
      · exact ⟨a2, a3, fun z => a4 ⟨z.2, z.1⟩⟩
      · exact h1 x hx
theorem orC_c {c : Int} (h : isC c = true) : orC c = c := by unfold orC; rw [if_pos h]
/-- What was escaped, all of it. -/
theorem all_esc (v : Bool) : ∀ (n : Nat) (l : List Int), l.length ≤ n → Byt l → allR (escS v false l) v = cleanL l
  | _, [], _, _ => rfl
  | 0, b :: l, h, _ => by simp at h
  | n + 1, b :: l, h, hb => by
    rw [List.length_cons] at h
    have ih := fun m => all_esc v n (l.drop m) (by rw [List.length_drop]; omega) (Byt.drop (fun x hx => hb x (List.mem_cons_of_mem _ hx)) m)
    have named : ∀ (nm : List Int) (c : Int) (m : Nat), isC c = true → decL (b :: l) = (c, ((m + 1 : Nat) : Int), true) → nm.getD 0 (-1) ≠ 35 → nm ≠ [] → best (nm ++ escS v false (l.drop m)) v rowsI 0 0 = (c, (nm.length : Int)) →
        allR (38 :: nm ++ escS v false (l.drop m)) v = cleanL (b :: l) := fun nm c m hc hd h35 hne hbst => by
      have hp := List.length_pos_iff.2 hne
      have h0 : (nm ++ escS v false (l.drop m)).getD 0 (-1) ≠ 35 := by
        cases nm with
        | nil => exact absurd rfl hne
        | cons x t => exact h35
      rw [allR_cons v (by simp), at_named h0 hbst (by omega), clean_cons (by simp), hd]
      simp only
      rw [orC_c hc, show (1 + (nm.length : Int)).toNat = nm.length + 1 by omega, Int.toNat_natCast, List.cons_append, List.drop_succ_cons, List.drop_left, List.drop_succ_cons, ih m]
    have one : ∀ c : Int, c < 128 → b = c → decL (b :: l) = (c, ((0 + 1 : Nat) : Int), true) := fun c hc hbc => by
      show dec b _ _ _ = _
      unfold dec
      rw [hbc, if_pos hc]; rfl
    rw [escS]
    by_cases a1 : b = 38
    · rw [if_pos a1]; exact named [97, 109, 112, 59] 38 0 (by decide) (one 38 (by decide) a1) (by decide) (by decide) (b_amp _ _)
    rw [if_neg a1]
    by_cases a2 : b = 60
    · rw [if_pos a2]; exact named [108, 116, 59] 60 0 (by decide) (one 60 (by decide) a2) (by decide) (by decide) (b_lt _ _)
    rw [if_neg a2]
    by_cases a3 : b = 62
    · rw [if_pos a3]; exact named [103, 116, 59] 62 0 (by decide) (one 62 (by decide) a3) (by decide) (by decide) (b_gt _ _)
    rw [if_neg a3]
    by_cases a4 : b = 34 ∧ v = true
    · rw [if_pos a4]; exact named [113, 117, 111, 116, 59] 34 0 (by decide) (one 34 (by decide) a4.1) (by decide) (by decide) (b_quot _ _)
    rw [if_neg a4]
    by_cases a5 : b = 194 ∧ l.getD 0 (-1) = 160
    · rw [if_pos a5]
      obtain ⟨rfl, h1⟩ := a5
      cases l with
      | nil => simp at h1
      | cons d t =>
        obtain rfl : d = 160 := h1
        rw [escS]
        exact named [110, 98, 115, 112, 59] 160 1 (by decide) (dec_enc (c := 160) (by decide) t) (by decide) (by decide) (b_nbsp _ _)
    rw [if_neg a5]
    have hd : decL (b :: escS v false l) = decL (b :: l) := by rw [dec_run, run_esc, ← dec_run]
    have hl := dec_len (l := b :: run l) (by simp)
    rw [← dec_run, List.length_cons] at hl
    obtain ⟨m, hm⟩ : ∃ m : Nat, (decL (b :: l)).2.1 = ((m + 1 : Nat) : Int) := ⟨((decL (b :: l)).2.1 - 1).toNat, by omega⟩
    have ha : atL (b :: escS v false l) v = (encB (decL (b :: l)).1, (decL (b :: l)).2.1) := by
      unfold atL
      rw [if_neg (show ¬ (b :: escS v false l).getD 0 (-1) = 38 from a1), hd]
    rw [allR_cons v (by simp), ha, clean_cons (by simp)]
    simp only
    rw [hm, Int.toNat_natCast, List.drop_succ_cons, List.drop_succ_cons, esc_drop v m l (by omega), ih m]
end Go.Proofs.YtenbdffgnbibeaaDoor.X
