/- References, plainly: what stands at a place of a text: the program's. -/
import Derived.Test.YtenbdffgnbibeaaDoorRPureNumber
import Derived.Test.YtenbdffgnbibeaaDoorR1
import Derived.Test.YtenbdffgnbibeaaDoorR2
import Derived.Test.YtenbdffgnbibeaaDoorR4
namespace Go.Proofs.YtenbdffgnbibeaaDoor.R
open Go.RowKit Go.Proofs.YtenbdffgnbibeaaDoorW.PrintWords Go.Proofs.YtenbdffgnbibeaaDoorW.PrintLast
set_option linter.unusedSimpArgs false

/-- What stands where a text (that is not empty) begins: its bytes, and how many bytes of the text it takes. -/
def atL (l : List Int) (v : Bool) : List Int × Int :=
  if l.getD 0 (-1) = 38 then
    if l.getD 1 (-1) = 35 then if (numL (l.drop 2)).2 > 0 then (encB (orC (numL (l.drop 2)).1), 2 + (numL (l.drop 2)).2) else ([38], 1)
    else if (best (l.drop 1) v rowsI 0 0).2 > 0 then (encB (orC (best (l.drop 1) v rowsI 0 0).1), 1 + (best (l.drop 1) v rowsI 0 0).2) else ([38], 1)
  else (encB (decL l).1, (decL l).2.1)
theorem fin_le {l : List Int} {fr i v : Int} (h0 : 0 ≤ i) (h : i ≤ l.length) : 0 ≤ (fin l fr i v).2 ∧ (fin l fr i v).2 ≤ l.length := by
  unfold fin
  split
  · simp
  · simp only
    split
    · rename_i q
      have := getD_m1 q (by decide)
      omega
    · omega
theorem numL_le (l : List Int) : 0 ≤ (numL l).2 ∧ (numL l).2 ≤ l.length := by
  unfold numL
  split
  · rename_i h
    have : 1 ≤ l.length := by rcases h with h | h <;> exact getD_m1 h (by decide)
    have c := cnt_le 16 (l.drop 1)
    rw [List.length_drop] at c
    exact fin_le (by omega) (by omega)
  · have c := cnt_le 10 l
    exact fin_le (by omega) (by omega)
theorem cand_le (l : List Int) (v : Bool) (r : List Int × Int × Bool) : 0 ≤ cand l v r ∧ cand l v r ≤ l.length := by
  unfold cand
  split
  · rename_i h
    have hl := congrArg List.length h
    rw [List.length_take] at hl
    split
    · rename_i q
      have := getD_m1 q (by decide)
      omega
    · split <;> omega
  · omega
theorem best_le (l : List Int) (v : Bool) : ∀ (rs : List (List Int × Int × Bool)) (c n : Int), 0 ≤ n → n ≤ l.length → 0 ≤ (best l v rs c n).2 ∧ (best l v rs c n).2 ≤ l.length
  | [], c, n, h0, h1 => ⟨h0, h1⟩
  | r :: rs, c, n, h0, h1 => by
    rw [best]
    have := cand_le l v r
    split
    · exact best_le l v rs _ _ this.1 this.2
    · exact best_le l v rs _ _ h0 h1
/-- How far it goes. -/
theorem atL_le {l : List Int} (v : Bool) (h : l ≠ []) : 1 ≤ (atL l v).2 ∧ (atL l v).2 ≤ l.length := by
  have hl := List.length_pos_iff.2 h
  unfold atL
  split
  · split
    · rename_i _ q
      have := getD_m1 q (by decide)
      have n := numL_le (l.drop 2)
      rw [List.length_drop] at n
      split <;> simp only <;> omega
    · have n := best_le (l.drop 1) v rowsI 0 0 (Int.le_refl _) (by omega)
      rw [List.length_drop] at n
      split <;> simp only <;> omega
  · have := dec_len h
    exact ⟨this.1, this.2.1⟩
theorem refAt_ev {s : ByteArray} {i : Nat} {v : Bool} (hs : s.size ≤ 140737488355328) (hi : i < s.size) : Ev (fun k => refs_At.f k s (i : Int) v) (strOfNums (atL ((bl s).drop i) v).1, (i : Int) + (atL ((bl s).drop i) v).2) := by
  have hne : (bl s).drop i ≠ [] := by rw [drop_at hi]; exact List.cons_ne_nil _ _
  have hb : bt s (i : Int) = ((bl s).drop i).getD 0 (-1) := by rw [bt_in hi, drop_getD, Nat.add_zero]
  unfold refs_At.f
  refine Ev.ite_neg (by omega) (Ev.step (fun k => by rw [refs_At.j0]) ?_)
  refine Ev.ite_neg (by rw [decide_eq_true_eq]; omega) (Ev.ite_pos (by omega) (Ev.ite_pos (by omega) ?_))
  by_cases h38 : bt s (i : Int) = 38
  · refine Ev.ite_pos h38 ?_
    have e1 : wrap64 ((i : Int) + 1) = ((i + 1 : Nat) : Int) := by rw [w64 (by omega) (by omega)]; rfl
    rw [e1]
    refine Ev.ite_pos (by omega) (Ev.ite_pos (by omega) ?_)
    rw [Int.toNat_natCast]
    have hr : bl (s.extract (i + 1) s.size) = ((bl s).drop i).drop 1 := by rw [bl_tail, List.drop_drop]
    have hrs : (s.extract (i + 1) s.size).size = s.size - (i + 1) := by rw [← bl_length, hr, List.length_drop, List.length_drop, bl_length]; omega
    generalize s.extract (i + 1) s.size = t at hr hrs ⊢
    refine Ev.bind (Ev.pure fun _ => hp1_f t 35) ?_
    have hd : (bl t).getD 0 (-1) = ((bl s).drop i).getD 1 (-1) := by rw [hr, drop_getD]
    by_cases h35 : (bl t).getD 0 (-1) = 35
    · have h1 := getD_m1 h35 (by decide)
      rw [bl_length] at h1
      refine Ev.ite_pos (decide_eq_true h35) (Ev.ite_pos (by omega) ?_)
      have hu : bl (t.extract 1 t.size) = ((bl s).drop i).drop 2 := by rw [bl_tail, hr, List.drop_drop]
      have hus : (t.extract 1 t.size).size ≤ 140737488355328 := by rw [← bl_length, hu, List.length_drop, List.length_drop, bl_length]; omega
      generalize t.extract 1 t.size = u at hu hus ⊢
      have nl := numL_le (bl u)
      rw [bl_length] at nl
      refine Ev.bind (number_ev hus) ?_
      have ha : atL ((bl s).drop i) v = if (numL (bl u)).2 > 0 then (encB (orC (numL (bl u)).1), 2 + (numL (bl u)).2) else ([38], 1) := by
        unfold atL; rw [if_pos (hb ▸ h38), if_pos (hd ▸ h35), hu]
      rw [ha]
      by_cases q : (numL (bl u)).2 > 0
      · refine Ev.ite_pos q (Ev.bind (bytes_ev _) (Ev.cast (Ev.now _) ?_))
        rw [if_pos q, w64 (x := (i : Int) + 2) (by omega) (by omega), w64 (by omega) (by omega), Int.add_assoc]
      · refine Ev.ite_neg q (Ev.cast (Ev.now _) ?_)
        rw [if_neg q]; rfl
    · refine Ev.ite_neg (by rw [decide_eq_true_eq]; exact h35) ?_
      have nl := best_le (bl t) v rowsI 0 0 (Int.le_refl _) (by omega)
      rw [bl_length] at nl
      refine Ev.bind (named_ev t v) ?_
      have ha : atL ((bl s).drop i) v = if (best (bl t) v rowsI 0 0).2 > 0 then (encB (orC (best (bl t) v rowsI 0 0).1), 1 + (best (bl t) v rowsI 0 0).2) else ([38], 1) := by
        unfold atL; rw [if_pos (hb ▸ h38), if_neg (hd ▸ h35), hr]
      rw [ha]
      by_cases q : (best (bl t) v rowsI 0 0).2 > 0
      · refine Ev.ite_pos q (Ev.bind (bytes_ev _) (Ev.cast (Ev.now _) ?_))
        rw [if_pos q, w64 (by omega) (by omega)]
        simp only [Prod.mk.injEq, true_and]; omega
      · refine Ev.ite_neg q (Ev.cast (Ev.now _) ?_)
        rw [if_neg q]; rfl
  · refine Ev.ite_neg h38 (Ev.ite_pos (by omega) ?_)
    rw [Int.toNat_natCast]
    have hr : bl (s.extract i s.size) = (bl s).drop i := bl_tail _ _
    have hl := dec_len hne
    rw [List.length_drop, bl_length] at hl
    refine Ev.bind (first_ev _ (by rw [hr]; exact hne)) (Ev.bind (bytes_ev _) (Ev.cast (Ev.now _) ?_))
    rw [hr]
    have ha : atL ((bl s).drop i) v = (encB (decL ((bl s).drop i)).1, (decL ((bl s).drop i)).2.1) := by unfold atL; rw [if_neg (hb ▸ h38)]
    have hc : orC (decL ((bl s).drop i)).1 = (decL ((bl s).drop i)).1 := by unfold orC; rw [if_pos (dec_isC ((byt_bl s).drop i |>.head hne))]
    rw [ha]
    simp only [two]
    rw [hc, w64 (by omega) (by omega)]
end Go.Proofs.YtenbdffgnbibeaaDoor.R
