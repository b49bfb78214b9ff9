/- RefsPlain, plainly: a text without & is itself, cleaned; and a right one is a part by itself. -/
import Derived.Test.YtenbdffgnbibeaaDoorRPureRefAll
import Derived.Test.YtenbdffgnbibeaaDoorRPureNot
import Derived.Test.YtenbdffgnbibeaaDoorR11
namespace Go.Proofs.YtenbdffgnbibeaaDoor.R
open Go.RowKit Go.Proofs.YtenbdffgnbibeaaDoorW.PrintWords Go.Proofs.YtenbdffgnbibeaaDoorW.PrintLast

theorem head_mem {l : List Int} (h : l ≠ []) : l.getD 0 (-1) ∈ l := by
  cases l with
  | nil => exact absurd rfl h
  | cons x l => exact List.mem_cons_self ..
theorem atL_no {l : List Int} (v : Bool) (h : l.getD 0 (-1) ≠ 38) : atL l v = (encB (decL l).1, (decL l).2.1) := by unfold atL; rw [if_neg h]
theorem plain_clean (v : Bool) : ∀ l : List Int, (∀ x ∈ l, x ≠ 38) → allR l v = cleanL l := by
  refine along (fun _ => rfl) fun l h ih hn => ?_
  rw [allR_cons v h, clean_cons h, atL_no v (hn _ (head_mem h))]
  simp only
  rw [ih fun x hx => hn x (List.mem_of_mem_drop hx)]
theorem plain_join (v : Bool) (m : List Int) : ∀ l : List Int, Byt l → (∀ x ∈ l, x ≠ 38) → rightL l = true → allR (l ++ m) v = l ++ allR m v := by
  refine along (fun _ _ _ => rfl) fun l h ih hb hn hr => ?_
  rw [right_cons h, Bool.and_eq_true] at hr
  obtain ⟨e1, e2⟩ := dec_true (hb.head h) hr.1
  have hi := dec_isC (hb.head h)
  have hd := dec_len h
  have el : l = encB (decL l).1 ++ l.drop (decL l).2.1.toNat := by rw [← e1, List.take_append_drop]
  have h0 : (l ++ m).getD 0 (-1) = l.getD 0 (-1) := by
    cases l with
    | nil => exact absurd rfl h
    | cons x l => rfl
  have ed : decL (l ++ m) = decL l := by
    have a := dec_enc hi (l.drop (decL l).2.1.toNat ++ m)
    rw [← List.append_assoc, ← el] at a
    have b := dec_enc hi (l.drop (decL l).2.1.toNat)
    rw [← el] at b
    rw [a, ← b]
  rw [allR_cons v (by intro z; exact h (List.append_eq_nil_iff.1 z).1), atL_no v (by rw [h0]; exact hn _ (head_mem h)), ed]
  simp only
  rw [List.drop_append_of_le_length (by omega), ih (hb.drop _) (fun x hx => hn x (List.mem_of_mem_drop hx)) hr.2, ← List.append_assoc, ← el]
theorem allF_length (v : Bool) : ∀ (n : Nat) (l : List Int), (allF v n l).length ≤ 4 * l.length
  | 0, _ => Nat.zero_le _
  | n + 1, l => by
    rw [allF]
    split
    · exact Nat.zero_le _
    · rename_i h
      have a := atL_le v h
      have b := atL_size (l := l) v
      have c := allF_length v n (l.drop (atL l v).2.toNat)
      rw [List.length_drop] at c
      rw [List.length_append]
      omega
theorem bt_all {s : ByteArray} (h : ∀ j : Nat, j < s.size → bt s (j : Int) ≠ 38) : ∀ x ∈ bl s, x ≠ 38 := fun x hx => by
  obtain ⟨j, hj, rfl⟩ := List.mem_iff_getElem.1 hx
  have hj' := hj
  rw [bl_length] at hj'
  have := h j hj'
  rw [bt_in hj', List.getD_eq_getElem?_getD, List.getElem?_eq_getElem hj] at this
  exact this
theorem plain_l0 {s t : ByteArray} {v : Bool} (hs : s.size ≤ 1000) (ht : t.size ≤ 1000) : ∀ d i : Nat, d + i = s.size → (∀ j : Nat, j < i → bt s (j : Int) ≠ 38) → Ev (fun k => rectolaw04_RefsPlain.l0 k s t v (i : Int)) true
  | 0, i, h, hj => by
    obtain rfl : i = s.size := by omega
    have hn := bt_all hj
    refine Ev.step (fun k => by rw [rectolaw04_RefsPlain.l0]) ?_
    refine Ev.ite_neg (by omega) (Ev.bind (refAll_ev (by omega)) (Ev.bind (clean_ev (by omega)) (Ev.ite_pos (by rw [plain_clean v _ hn]) (Ev.bind (right_ev s) ?_))))
    by_cases hr : rightL (bl s) = true
    · have hst : (s ++ t).size = s.size + t.size := ByteArray.size_append
      have hz : (strOfNums (allR (bl t) v)).size ≤ 4000 := by
        rw [strOfNums_size]
        have := allF_length v (bl t).length (bl t)
        rw [bl_length] at this
        unfold allR
        rw [bl_length]
        omega
      refine Ev.ite_pos hr (Ev.ite_pos (by omega) (Ev.bind (refAll_ev (by omega)) (Ev.bind (refAll_ev (by omega)) (Ev.ite_pos (by omega) (Ev.ite_pos ?_ (Ev.bind notin_ev (Ev.now _)))))))
      refine toList_eq.2 (bl_inj ?_)
      rw [bl_allR, bl_append, bl_append, bl_allR, plain_join v _ _ (byt_bl s) hn hr]
    · exact Ev.ite_neg hr (Ev.bind notin_ev (Ev.now _))
  | d + 1, i, h, hj => by
    refine Ev.step (fun k => by rw [rectolaw04_RefsPlain.l0]) ?_
    refine Ev.ite_pos (by omega) (Ev.ite_pos (by omega) ?_)
    by_cases q : bt s (i : Int) = 38
    · exact Ev.ite_pos q (Ev.bind notin_ev (Ev.now _))
    · refine Ev.ite_neg q ?_
      rw [w64 (by omega) (by omega)]
      exact plain_l0 hs ht d (i + 1) (by omega) fun j hj' => by
        rcases Nat.lt_or_ge j i with z | z
        · exact hj j z
        · obtain rfl : j = i := by omega
          exact q
theorem RefsPlain : rectolaw04_RefsPlain.Pure := fun s t v _ _ => Ev.rounds (by
  unfold rectolaw04_RefsPlain.f
  have yes : ∀ x : Bool, x = true → Ev (fun k => rectolaw04_RefsPlain.j0 k s t v x) true := fun x hx =>
    Ev.step (fun k => by rw [rectolaw04_RefsPlain.j0]) (Ev.ite_pos hx (Ev.bind notin_ev (Ev.now _)))
  by_cases hs : (s.size : Int) > 1000
  · exact Ev.ite_pos hs (yes _ rfl)
  refine Ev.ite_neg hs ?_
  by_cases ht : (t.size : Int) > 1000
  · exact yes _ (decide_eq_true ht)
  · refine Ev.step (fun k => by rw [rectolaw04_RefsPlain.j0]) (Ev.ite_neg (by rw [decide_eq_true_eq]; exact ht) ?_)
    exact plain_l0 (by omega) (by omega) s.size 0 (by omega) fun j hj => absurd hj (by omega))
end Go.Proofs.YtenbdffgnbibeaaDoor.R
