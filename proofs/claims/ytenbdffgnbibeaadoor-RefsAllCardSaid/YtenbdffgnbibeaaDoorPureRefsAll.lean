/- RefsAll, plainly: all of any text. -/
import Derived.Test.YtenbdffgnbibeaaDoorRPureNot
import Derived.Test.YtenbdffgnbibeaaDoorRPureRefRAt
import Derived.Test.YtenbdffgnbibeaaDoorRPureRefAll
import Derived.Test.YtenbdffgnbibeaaDoorR9
namespace Go.Proofs.YtenbdffgnbibeaaDoor.R
open Go.RowKit Go.Proofs.YtenbdffgnbibeaaDoorW.PrintWords Go.Proofs.YtenbdffgnbibeaaDoorW.PrintLast

theorem rAll_l {s : ByteArray} {v : Bool} (hs : s.size ≤ 140737488355328) : ∀ (n i : Nat) (out : ByteArray), s.size - i ≤ n → i ≤ s.size → out.size + 4 * (s.size - i) ≤ 140737488355328 →
    Ev (fun k => rectoref04_All.l0 k s v out (i : Int)) (out ++ strOfNums (allR ((bl s).drop i) v))
  | 0, i, out, h, hi, _ => by
    refine Ev.step (fun k => by rw [rectoref04_All.l0]) ?_
    rw [List.drop_eq_nil_of_le (by rw [bl_length]; omega)]
    exact Ev.cast (Ev.ite_neg (by omega) (Ev.now _)) (by rw [allR_nil]; exact (ByteArray.append_empty).symm)
  | n + 1, i, out, h, hi, ho => by
    refine Ev.step (fun k => by rw [rectoref04_All.l0]) ?_
    by_cases q : i = s.size
    · rw [List.drop_eq_nil_of_le (by rw [bl_length]; omega)]
      exact Ev.cast (Ev.ite_neg (by omega) (Ev.now _)) (by rw [allR_nil]; exact (ByteArray.append_empty).symm)
    have hne : (bl s).drop i ≠ [] := by rw [drop_at (show i < s.size by omega)]; exact List.cons_ne_nil _ _
    have hl := atL_le v hne
    rw [List.length_drop, bl_length] at hl
    have hz := atL_size (l := (bl s).drop i) v
    have hsz : (strOfNums (atL ((bl s).drop i) v).1).size = (atL ((bl s).drop i) v).1.length := by rw [size_length, u8s_data]; simp [u8s]
    refine Ev.ite_pos (by omega) (Ev.bind (rAt_in hs (by omega)) (Ev.ite_pos (by simp only [hsz]; omega) ?_))
    have go := rAll_l (v := v) hs n (i + (atL ((bl s).drop i) v).2.toNat) (out ++ strOfNums (atL ((bl s).drop i) v).1) (by omega) (by omega) (by rw [ByteArray.size_append, hsz]; omega)
    rw [show ((i + (atL ((bl s).drop i) v).2.toNat : Nat) : Int) = (i : Int) + (atL ((bl s).drop i) v).2 by omega] at go
    refine Ev.cast go ?_
    rw [allR_cons v hne, List.drop_drop, ByteArray.append_assoc]
    refine congrArg (out ++ ·) (bytes_ext ?_)
    rw [u8s_data, ByteArray.toList_data_append, u8s_data, u8s_data]
    simp only [u8s, List.map_append]
theorem rAll_ev {s : ByteArray} {v : Bool} (hs : s.size ≤ 35184372088832) : Ev (fun k => rectoref04_All.f k s v) (strOfNums (allR (bl s) v)) := by
  have := rAll_l (s := s) (v := v) (by omega) s.size 0 ⟨#[]⟩ (by omega) (by omega) (by show 0 + _ ≤ _; omega)
  rw [List.drop_zero] at this
  exact Ev.cast this (ByteArray.empty_append)
theorem RefsAll : rectolaw04_RefsAll.Pure := fun s v hs => Ev.rounds (by
  unfold rectolaw04_RefsAll.f
  by_cases big : (s.size : Int) > 2000
  · exact Ev.ite_pos big (Ev.bind notin_ev (Ev.now _))
  exact Ev.ite_neg big (Ev.bind (refAll_ev (by omega)) (Ev.bind (rAll_ev (by omega)) (Ev.ite_pos rfl (Ev.bind notin_ev (Ev.now _))))))
end Go.Proofs.YtenbdffgnbibeaaDoor.R
