/- References, plainly: all of a text: the program's. -/
import Derived.Test.YtenbdffgnbibeaaDoorRPureRefAt
import Derived.Test.YtenbdffgnbibeaaDoorRRAll
namespace Go.Proofs.YtenbdffgnbibeaaDoor.R
open Go.RowKit Go.Proofs.YtenbdffgnbibeaaDoorW.PrintWords Go.Proofs.YtenbdffgnbibeaaDoorW.PrintLast
set_option linter.unusedSimpArgs false

def allF (v : Bool) : Nat → List Int → List Int
  | 0, _ => []
  | n + 1, l => if l = [] then [] else (atL l v).1 ++ allF v n (l.drop (atL l v).2.toNat)
/-- All of a text. -/
def allR (l : List Int) (v : Bool) : List Int := allF v l.length l
theorem allF_eq (v : Bool) : ∀ (n m : Nat) (l : List Int), l.length ≤ n → l.length ≤ m → allF v n l = allF v m l
  | 0, m, l, h, _ => by
    obtain rfl : l = [] := List.length_eq_zero_iff.1 (by omega)
    cases m with
    | zero => rfl
    | succ m => rw [allF, allF, if_pos rfl]
  | n + 1, 0, l, _, h => by
    obtain rfl : l = [] := List.length_eq_zero_iff.1 (by omega)
    rw [allF, allF, if_pos rfl]
  | n + 1, m + 1, l, h, h' => by
    rw [allF, allF]
    by_cases q : l = []
    · rw [if_pos q, if_pos q]
    · rw [if_neg q, if_neg q]
      have := atL_le v q
      rw [allF_eq v n m (l.drop (atL l v).2.toNat) (by rw [List.length_drop]; omega) (by rw [List.length_drop]; omega)]
theorem allR_nil (v : Bool) : allR [] v = [] := rfl
theorem allR_cons {l : List Int} (v : Bool) (h : l ≠ []) : allR l v = (atL l v).1 ++ allR (l.drop (atL l v).2.toNat) v := by
  have hl := List.length_pos_iff.2 h
  have := atL_le v h
  unfold allR
  obtain ⟨n, hn⟩ : ∃ n, l.length = n + 1 := ⟨l.length - 1, by omega⟩
  rw [hn, allF, if_neg h]
  rw [allF_eq v n _ (l.drop (atL l v).2.toNat) (by rw [List.length_drop]; omega) (Nat.le_refl _)]
theorem atL_size {l : List Int} (v : Bool) : (atL l v).1.length ≤ 4 := by
  unfold atL
  repeat' split
  all_goals first
    | exact (encB_length _).1
    | simp
theorem atL_range {l : List Int} (v : Bool) (hb : Byt l) (h : l ≠ []) : ∀ x ∈ (atL l v).1, 0 ≤ x ∧ x ≤ 255 := by
  unfold atL
  repeat' split
  all_goals first
    | exact encB_range (orC_is _)
    | exact encB_range (dec_isC (hb.head h))
    | (intro x hx; simp only [List.mem_cons, List.not_mem_nil, or_false] at hx; omega)
theorem byt_allF (v : Bool) : ∀ (n : Nat) (l : List Int), Byt l → Byt (allF v n l)
  | 0, _, _ => fun x hx => by cases hx
  | n + 1, l, hb => by
    rw [allF]
    split
    · intro x hx; cases hx
    · rename_i h
      intro x hx
      rcases List.mem_append.1 hx with hx | hx
      · exact atL_range v hb h x hx
      · exact byt_allF v n _ (hb.drop _) x hx
theorem refAll_l {s : ByteArray} {v : Bool} (hs : s.size ≤ 140737488355328) : ∀ (n i : Nat) (out : List UInt8), s.size - i ≤ n → i ≤ s.size → out.length + 4 * (s.size - i) ≤ 140737488355328 →
    Ev (fun k => refs_All.l0 k s v (i : Int) out) ⟨(out ++ u8s (allR ((bl s).drop i) v)).toArray⟩
  | 0, i, out, h, hi, _ => by
    refine Ev.step (fun k => by rw [refs_All.l0]) ?_
    rw [List.drop_eq_nil_of_le (by rw [bl_length]; omega)]
    exact Ev.cast (Ev.ite_neg (by omega) (Ev.now _)) (by rw [allR_nil]; simp [u8s])
  | n + 1, i, out, h, hi, ho => by
    refine Ev.step (fun k => by rw [refs_All.l0]) ?_
    by_cases q : i = s.size
    · rw [List.drop_eq_nil_of_le (by rw [bl_length]; omega)]
      exact Ev.cast (Ev.ite_neg (by omega) (Ev.now _)) (by rw [allR_nil]; simp [u8s])
    have hne : (bl s).drop i ≠ [] := by rw [drop_at (show i < s.size by omega)]; exact List.cons_ne_nil _ _
    have hl := atL_le v hne
    rw [List.length_drop, bl_length] at hl
    have hz := atL_size (l := (bl s).drop i) v
    have hsz : (strOfNums (atL ((bl s).drop i) v).1).size = (atL ((bl s).drop i) v).1.length := by rw [size_length, u8s_data]; simp [u8s]
    refine Ev.ite_pos (by omega) (Ev.bind (refAt_ev hs (by omega)) (Ev.ite_pos (by simp only [hsz]; omega) ?_))
    have go := refAll_l (v := v) hs n (i + (atL ((bl s).drop i) v).2.toNat) (out ++ (strOfNums (atL ((bl s).drop i) v).1).data.toList) (by omega) (by omega) (by rw [List.length_append, ← size_length, hsz]; omega)
    rw [show ((i + (atL ((bl s).drop i) v).2.toNat : Nat) : Int) = (i : Int) + (atL ((bl s).drop i) v).2 by omega] at go
    refine Ev.cast go ?_
    rw [u8s_data, allR_cons v hne, List.drop_drop]
    simp only [u8s, List.map_append, List.append_assoc]
theorem refAll_ev {s : ByteArray} {v : Bool} (hs : s.size ≤ 35184372088832) : Ev (fun k => refs_All.f k s v) (strOfNums (allR (bl s) v)) := by
  have := refAll_l (s := s) (v := v) (by omega) s.size 0 [] (by omega) (by omega) (by simp; omega)
  rw [List.drop_zero] at this
  exact this
theorem bl_allR (s : ByteArray) (v : Bool) : bl (strOfNums (allR (bl s) v)) = allR (bl s) v := bl_strOfNums (byt_allF v _ _ (byt_bl s))
end Go.Proofs.YtenbdffgnbibeaaDoor.R
