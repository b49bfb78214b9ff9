/- References, plainly: what stands at a place of a text: the program's. -/
import Derived.Test.YtenbdffgnbibeaaDoorXPureNumber
import Derived.Test.YtenbdffgnbibeaaDoorXRAll
import Derived.Test.YtenbdffgnbibeaaDoorX1
import Derived.Test.YtenbdffgnbibeaaDoorX2
import Derived.Test.YtenbdffgnbibeaaDoorX4
namespace Go.Proofs.YtenbdffgnbibeaaDoor.X
open Go.RowKit Go.Proofs.YtenbdffgnbibeaaDoorW.PrintWords Go.Proofs.YtenbdffgnbibeaaDoorW.PrintLast
set_option linter.unusedSimpArgs false

/-- What stands where a text (that is not empty) begins: its bytes, and how many bytes of the text it takes. -/
def atL (l : List Int) (v : Bool) : List Int × Int :=
  if l.getD 0 (-1) = 38 then
    if l.getD 1 (-1) = 35 then if (numL (l.drop 2)).2 > 0 then (encB (orC (numL (l.drop 2)).1), 2 + (numL (l.drop 2)).2) else ([38], 1)
    else if (best (l.drop 1) v rowsI 0 0).2 > 0 then (encB (orC (best (l.drop 1) v rowsI 0 0).1), 1 + (best (l.drop 1) v rowsI 0 0).2) else ([38], 1)
  else (encB (decL l).1, (decL l).2.1)
theorem fin_le {l : List Int} {fr i v : Int} (h0 : 0 ≤ i) (h : i ≤ l.length) : 0 ≤ (fin l fr i v).2 ∧ (fin l fr i v).2 ≤ l.length := by
  unfold fin
  split
  · simp
  · simp only
    split
    · rename_i q
      have := getD_m1 q (by decide)
      omega
    · omega
theorem numL_le (l : List Int) : 0 ≤ (numL l).2 ∧ (numL l).2 ≤ l.length := by
  unfold numL
  split
  · rename_i h
    have : 1 ≤ l.length := by rcases h with h | h <;> exact getD_m1 h (by decide)
    have c := cnt_le 16 (l.drop 1)
    rw [List.length_drop] at c
    exact fin_le (by omega) (by omega)
  · have c := cnt_le 10 l
    exact fin_le (by omega) (by omega)
theorem cand_le (l : List Int) (v : Bool) (r : List Int × Int × Bool) : 0 ≤ cand l v r ∧ cand l v r ≤ l.length := by
  unfold cand
  split
  · rename_i h
    have hl := congrArg List.length h
    rw [List.length_take] at hl
    split
    · rename_i q
      have := getD_m1 q (by decide)
      omega
    · split <;> omega
  · omega
theorem best_le (l : List Int) (v : Bool) : ∀ (rs : List (List Int × Int × Bool)) (c n : Int), 0 ≤ n → n ≤ l.length → 0 ≤ (best l v rs c n).2 ∧ (best l v rs c n).2 ≤ l.length
  | [], c, n, h0, h1 => ⟨h0, h1⟩
  | r :: rs, c, n, h0, h1 => by
    rw [best]
    have := cand_le l v r
    split
    · exact best_le l v rs _ _ this.1 this.2
    · exact best_le l v rs _ _ h0 h1
/-- How far it goes. -/
theorem atL_le {l : List Int} (v : Bool) (h : l ≠ []) : 1 ≤ (atL l v).2 ∧ (atL l v).2 ≤ l.length := by
  have hl := List.length_pos_iff.2 h
  unfold atL
  split
  · split
    · rename_i _ q
      have := getD_m1 q (by decide)
      have n := numL_le (l.drop 2)
      rw [List.length_drop] at n
      split <;> simp only <;> omega
    · have n := best_le (l.drop 1) v rowsI 0 0 (Int.le_refl _) (by omega)
      rw [List.length_drop] at n
      split <;> simp only <;> omega
  · have := dec_len h
    exact ⟨this.1, this.2.1⟩
theorem refAt_ev {s : ByteArray} {i : Nat} {v : Bool} (hs : s.size ≤ 140737488355328) (hi : i < s.size) : Ev (fun k => refs_At.f k s (i : Int) v) (strOfNums (atL ((bl s).drop i) v).1, (i : Int) + (atL ((bl s).drop i) v).2) := by
  have hne : (bl s).drop i ≠ [] := by rw [drop_at hi]; exact List.cons_ne_nil _ _
  have hb : bt s (i : Int) = ((bl s).drop i).getD 0 (-1) := by rw [bt_in hi, drop_getD, Nat.add_zero]
  unfold refs_At.f
  refine Ev.ite_neg (by omega) (Ev.step (fun k => by rw [refs_At.j0]) ?_)
  refine Ev.ite_neg (by rw [decide_eq_true_eq]; omega) (Ev.ite_pos (by omega) (Ev.ite_pos (by omega) ?_))
  by_cases h38 : bt s (i : Int) = 38
  · refine Ev.ite_pos h38 ?_
    have e1 : wrap64 ((i : Int) + 1) = ((i + 1 : Nat) : Int) := by rw [w64 (by omega) (by omega)]; rfl
    rw [e1]
    refine Ev.ite_pos (by omega) (Ev.ite_pos (by omega) ?_)
    rw [Int.toNat_natCast]
    have hr : bl (s.extract (i + 1) s.size) = ((bl s).drop i).drop 1 := by rw [bl_tail, List.drop_drop]
    have hrs : (s.extract (i + 1) s.size).size = s.size - (i + 1) := by rw [← bl_length, hr, List.length_drop, List.length_drop, bl_length]; omega
    generalize s.extract (i + 1) s.size = t at hr hrs ⊢
    refine Ev.bind (Ev.pure fun _ => hp1_f t 35) ?_
    have hd : (bl t).getD 0 (-1) = ((bl s).drop i).getD 1 (-1) := by rw [hr, drop_getD]
    by_cases h35 : (bl t).getD 0 (-1) = 35
    · have h1 := getD_m1 h35 (by decide)
      rw [bl_length] at h1
      refine Ev.ite_pos (decide_eq_true h35) (Ev.ite_pos (by omega) ?_)
      have hu : bl (t.extract 1 t.size) = ((bl s).drop i).drop 2 := by rw [bl_tail, hr, List.drop_drop]
      have hus : (t.extract 1 t.size).size ≤ 140737488355328 := by rw [← bl_length, hu, List.length_drop, List.length_drop, bl_length]; omega
      generalize t.extract 1 t.size = u at hu hus ⊢
      have nl := numL_le (bl u)
      rw [bl_length] at nl
      refine Ev.bind (number_ev hus) ?_
      have ha : atL ((bl s).drop i) v = if (numL (bl u)).2 > 0 then (encB (orC (numL (bl u)).1), 2 + (numL (bl u)).2) else ([38], 1) := by
        unfold atL; rw [if_pos (hb ▸ h38), if_pos (hd ▸ h35), hu]
      rw [ha]
      by_cases q : (numL (bl u)).2 > 0
      · refine Ev.ite_pos q (Ev.bind (bytes_ev _) (Ev.cast (Ev.now _) ?_))
        rw [if_pos q, w64 (x := (i : Int) + 2) (by omega) (by omega), w64 (by omega) (by omega), Int.add_assoc]
      · refine Ev.ite_neg q (Ev.cast (Ev.now _) ?_)
        rw [if_neg q]; rfl
    · refine Ev.ite_neg (by rw [decide_eq_true_eq]; exact h35) ?_
      have nl := best_le (bl t) v rowsI 0 0 (Int.le_refl _) (by omega)
      rw [bl_length] at nl
      refine Ev.bind (named_ev t v) ?_
      have ha : atL ((bl s).drop i) v = if (best (bl t) v rowsI 0 0).2 > 0 then (encB (orC (best (bl t) v rowsI 0 0).1), 1 + (best (bl t) v rowsI 0 0).2) else ([38], 1) := by
        unfold atL; rw [if_pos (hb ▸ h38), if_neg (hd ▸ h35), hr]
      rw [ha]
      by_cases q : (best (bl t) v rowsI 0 0).2 > 0
      · refine Ev.ite_pos q (Ev.bind (bytes_ev _) (Ev.cast (Ev.now _) ?_))
        rw [if_pos q, w64 (by omega) (by omega)]
        simp only [Prod.mk.injEq, true_and]; omega
      · refine Ev.ite_neg q (Ev.cast (Ev.now _) ?_)
        rw [if_neg q]; rfl
  · refine Ev.ite_neg h38 (Ev.ite_pos (by omega) ?_)
    rw [Int.toNat_natCast]
    have hr : bl (s.extract i s.size) = (bl s).drop i := bl_tail _ _
    have hl := dec_len hne
    rw [List.length_drop, bl_length] at hl
    refine Ev.bind (first_ev _ (by rw [hr]; exact hne)) (Ev.bind (bytes_ev _) (Ev.cast (Ev.now _) ?_))
    rw [hr]
    have ha : atL ((bl s).drop i) v = (encB (decL ((bl s).drop i)).1, (decL ((bl s).drop i)).2.1) := by unfold atL; rw [if_neg (hb ▸ h38)]
    have hc : orC (decL ((bl s).drop i)).1 = (decL ((bl s).drop i)).1 := by unfold orC; rw [if_pos (dec_isC ((byt_bl s).drop i |>.head hne))]
    rw [ha]
    simp only [two]
    rw [hc, w64 (by omega) (by omega)]
end Go.Proofs.YtenbdffgnbibeaaDoor.X
namespace Go.Proofs.YtenbdffgnbibeaaDoor.X
open Go.RowKit Go.Proofs.YtenbdffgnbibeaaDoorW.PrintWords Go.Proofs.YtenbdffgnbibeaaDoorW.PrintLast
set_option linter.unusedSimpArgs false

def allF (v : Bool) : Nat → List Int → List Int
  | 0, _ => []
  | n + 1, l => if l = [] then [] else (atL l v).1 ++ allF v n (l.drop (atL l v).2.toNat)
/-- All of a text. -/
def allR (l : List Int) (v : Bool) : List Int := allF v l.length l
theorem allF_eq (v : Bool) : ∀ (n m : Nat) (l : List Int), l.length ≤ n → l.length ≤ m → allF v n l = allF v m l
  | 0, m, l, h, _ => by
    obtain rfl : l = [] := List.length_eq_zero_iff.1 (by omega)
    cases m with
    | zero => rfl
    | succ m => rw [allF, allF, if_pos rfl]
  | n + 1, 0, l, _, h => by
    obtain rfl : l = [] := List.length_eq_zero_iff.1 (by omega)
    rw [allF, allF, if_pos rfl]
  | n + 1, m + 1, l, h, h' => by
    rw [allF, allF]
    by_cases q : l = []
    · rw [if_pos q, if_pos q]
    · rw [if_neg q, if_neg q]
      have := atL_le v q
      rw [allF_eq v n m (l.drop (atL l v).2.toNat) (by rw [List.length_drop]; omega) (by rw [List.length_drop]; omega)]
theorem allR_nil (v : Bool) : allR [] v = [] := rfl
theorem allR_cons {l : List Int} (v : Bool) (h : l ≠ []) : allR l v = (atL l v).1 ++ allR (l.drop (atL l v).2.toNat) v := by
  have hl := List.length_pos_iff.2 h
  have := atL_le v h
  unfold allR
  obtain ⟨n, hn⟩ : ∃ n, l.length = n + 1 := ⟨l.length - 1, by omega⟩
  rw [hn, allF, if_neg h]
  rw [allF_eq v n _ (l.drop (atL l v).2.toNat) (by rw [List.length_drop]; omega) (Nat.le_refl _)]
theorem atL_size {l : List Int} (v : Bool) : (atL l v).1.length ≤ 4 := by
  unfold atL
  repeat' split
  all_goals first
    | exact (encB_length _).1
    | simp
theorem atL_range {l : List Int} (v : Bool) (hb : Byt l) (h : l ≠ []) : ∀ x ∈ (atL l v).1, 0 ≤ x ∧ x ≤ 255 := by
  unfold atL
  repeat' split
  all_goals first
    | exact encB_range (orC_is _)
    | exact encB_range (dec_isC (hb.head h))
    | (intro x hx; simp only [List.mem_cons, List.not_mem_nil, or_false] at hx; omega)
theorem byt_allF (v : Bool) : ∀ (n : Nat) (l : List Int), Byt l → Byt (allF v n l)
  | 0, _, _ => fun x hx => by cases hx
  | n + 1, l, hb => by
    rw [allF]
    split
    · intro x hx; cases hx
    · rename_i h
      intro x hx
      rcases List.mem_append.1 hx with hx | hx
      · exact atL_range v hb h x hx
      · exact byt_allF v n _ (hb.drop _) x hx
theorem refAll_l {s : ByteArray} {v : Bool} (hs : s.size ≤ 140737488355328) : ∀ (n i : Nat) (out : List UInt8), s.size - i ≤ n → i ≤ s.size → out.length + 4 * (s.size - i) ≤ 140737488355328 →
    Ev (fun k => refs_All.l0 k s v (i : Int) out) ⟨(out ++ u8s (allR ((bl s).drop i) v)).toArray⟩
  | 0, i, out, h, hi, _ => by
    refine Ev.step (fun k => by rw [refs_All.l0]) ?_
    rw [List.drop_eq_nil_of_le (by rw [bl_length]; omega)]
    exact Ev.cast (Ev.ite_neg (by omega) (Ev.now _)) (by rw [allR_nil]; simp [u8s])
  | n + 1, i, out, h, hi, ho => by
    refine Ev.step (fun k => by rw [refs_All.l0]) ?_
    by_cases q : i = s.size
    · rw [List.drop_eq_nil_of_le (by rw [bl_length]; omega)]
      exact Ev.cast (Ev.ite_neg (by omega) (Ev.now _)) (by rw [allR_nil]; simp [u8s])
    have hne : (bl s).drop i ≠ [] := by rw [drop_at (show i < s.size by omega)]; exact List.cons_ne_nil _ _
    have hl := atL_le v hne
    rw [List.length_drop, bl_length] at hl
    have hz := atL_size (l := (bl s).drop i) v
    have hsz : (strOfNums (atL ((bl s).drop i) v).1).size = (atL ((bl s).drop i) v).1.length := by rw [size_length, u8s_data]; simp [u8s]
    refine Ev.ite_pos (by omega) (Ev.bind (refAt_ev hs (by omega)) (Ev.ite_pos (by simp only [hsz]; omega) ?_))
    have go := refAll_l (v := v) hs n (i + (atL ((bl s).drop i) v).2.toNat) (out ++ (strOfNums (atL ((bl s).drop i) v).1).data.toList) (by omega) (by omega) (by rw [List.length_append, ← size_length, hsz]; omega)
    rw [show ((i + (atL ((bl s).drop i) v).2.toNat : Nat) : Int) = (i : Int) + (atL ((bl s).drop i) v).2 by omega] at go
    refine Ev.cast go ?_
    rw [u8s_data, allR_cons v hne, List.drop_drop]
    simp only [u8s, List.map_append, List.append_assoc]
theorem refAll_ev {s : ByteArray} {v : Bool} (hs : s.size ≤ 35184372088832) : Ev (fun k => refs_All.f k s v) (strOfNums (allR (bl s) v)) := by
  have := refAll_l (s := s) (v := v) (by omega) s.size 0 [] (by omega) (by omega) (by simp; omega)
  rw [List.drop_zero] at this
  exact this
theorem bl_allR (s : ByteArray) (v : Bool) : bl (strOfNums (allR (bl s) v)) = allR (bl s) v := bl_strOfNums (byt_allF v _ _ (byt_bl s))
end Go.Proofs.YtenbdffgnbibeaaDoor.X
