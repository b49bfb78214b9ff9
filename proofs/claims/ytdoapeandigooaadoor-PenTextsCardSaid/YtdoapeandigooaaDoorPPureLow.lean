/- Characters, plainly: spaces, small forms. -/
import Derived.Test.YtdoapeandigooaaDoorPPureAll
import Derived.Test.YtdoapeandigooaaDoorPChars
import Derived.Test.YtdoapeandigooaaDoorP7
import Derived.Test.YtdoapeandigooaaDoorP9
namespace Go.Proofs.YtdoapeandigooaaDoor.P
open Go.RowKit Go.Proofs.YtdoapeandigooaaDoorW.PrintWords Go.Proofs.YtdoapeandigooaaDoorW.PrintLast

def spB (b : Int) : Bool := decide (b = 9) || decide (b = 10) || decide (b = 12) || decide (b = 32)
theorem spB_iff {b : Int} : spB b = true ↔ b = 9 ∨ b = 10 ∨ b = 12 ∨ b = 32 := by unfold spB; simp only [Bool.or_eq_true, decide_eq_true_eq]; omega
theorem space_f (b : Int) : chars_Space.f b = some (spB b) := by
  unfold chars_Space.f spB
  repeat' split
  all_goals (congr 1; rw [Bool.eq_iff_iff]; simp; try omega)
theorem rspace_f (b : Int) : rectoref03_Space.f b = some (spB b) := space_f b
def lowI (b : Int) : Int := if 65 ≤ b ∧ b ≤ 90 then b + 32 else b
theorem lowI_range {b : Int} (h : 0 ≤ b ∧ b ≤ 255) : 0 ≤ lowI b ∧ lowI b ≤ 255 := by unfold lowI; split <;> omega
theorem lowI_low (b : Int) : lowI (lowI b) = lowI b := by
  unfold lowI
  by_cases h : 65 ≤ b ∧ b ≤ 90
  · rw [if_pos h, if_neg (by omega)]
  · rw [if_neg h, if_neg h]
theorem byt_low {l : List Int} (h : Byt l) : Byt (l.map lowI) := fun x hx => by
  obtain ⟨y, hy, rfl⟩ := List.mem_map.1 hx
  exact lowI_range (h y hy)
theorem low_bl (s : ByteArray) : (⟨(lower8 s).toArray⟩ : ByteArray) = strOfNums ((bl s).map lowI) := bl_inj (by
  rw [bl_strOfNums (byt_low (byt_bl s))]
  show (lower8 s).map (fun b => (b.toNat : Int)) = ((s.data.toList.map fun b => (b.toNat : Int)).map lowI)
  unfold lower8
  rw [List.map_map, List.map_map]
  refine List.map_congr_left fun b _ => ?_
  show ((low8 b).toNat : Int) = lowI b.toNat
  rw [low8_nat]
  unfold lowI
  by_cases h : 65 ≤ b.toNat ∧ b.toNat ≤ 90
  · rw [if_pos h, if_pos (by omega)]
  · rw [if_neg h, if_neg (by omega)])
theorem lower_ev {s : ByteArray} (hs : s.size ≤ 140737488355328) : chars_Lower.f s = some (strOfNums ((bl s).map lowI)) := by
  unfold chars_Lower.f
  rw [if_pos hs, low_bl]
theorem rlower_l {s : ByteArray} (hs : s.size ≤ 100000) : ∀ (n i : Nat) (out : ByteArray), n + i = s.size → out.size + n ≤ 100000 → Ev (fun k => rectoref03_Lower.l0 k s out (i : Int)) (out ++ strOfNums (((bl s).drop i).map lowI))
  | 0, i, out, h, _ => by
    refine Ev.step (fun k => by rw [rectoref03_Lower.l0]) ?_
    rw [List.drop_eq_nil_of_le (by rw [bl_length]; omega)]
    exact Ev.cast (Ev.ite_neg (by omega) (Ev.now _)) (ByteArray.append_empty).symm
  | n + 1, i, out, h, ho => by
    have hlt : i < s.size := by omega
    refine Ev.step (fun k => by rw [rectoref03_Lower.l0]) ?_
    have e1 : wrap64 ((i : Int) + 1) = ((i + 1 : Nat) : Int) := by rw [w64 (by omega) (by omega)]; rfl
    rw [e1, bl_at hlt, List.map_cons]
    have hb := bt_range s (i : Int)
    have app : ∀ (a : Int) (t : List Int), out ++ strOfNums [a] ++ strOfNums t = out ++ strOfNums (a :: t) := fun a t => by
      rw [ByteArray.append_assoc]
      refine congrArg (out ++ ·) (bytes_ext ?_)
      rw [ByteArray.toList_data_append]; rfl
    have go : ∀ a : Int, Ev (fun k => rectoref03_Lower.l0 k s (out ++ strOfNums [a]) ((i + 1 : Nat) : Int)) (out ++ strOfNums (a :: ((bl s).drop (i + 1)).map lowI)) := fun a => by
      have := rlower_l hs n (i + 1) (out ++ strOfNums [a]) (by omega) (by rw [ByteArray.size_append, size_nums]; simp only [List.length_cons, List.length_nil]; omega)
      exact Ev.cast this (app _ _)
    have plain : ¬ (65 ≤ bt s (i : Int) ∧ bt s (i : Int) ≤ 90) → Ev (fun k => if (i : Int) ≤ ((i + 1 : Nat) : Int) then (if ((i + 1 : Nat) : Int) ≤ (s.size : Int) then (if out.size + (s.extract (i : Int).toNat ((i + 1 : Nat) : Int).toNat).size ≤ 9223372036854775807 then (rectoref03_Lower.l0 k s (out ++ (s.extract (i : Int).toNat ((i + 1 : Nat) : Int).toNat)) ((i + 1 : Nat) : Int)) else none) else none) else none) (out ++ strOfNums (lowI (bt s (i : Int)) :: ((bl s).drop (i + 1)).map lowI)) := fun q => by
      rw [Int.toNat_natCast, Int.toNat_natCast, cut_one hlt, show lowI (bt s (i : Int)) = bt s (i : Int) from if_neg q]
      exact Ev.ite_pos (by omega) (Ev.ite_pos (by omega) (Ev.ite_pos (by rw [size_nums]; simp only [List.length_cons, List.length_nil]; omega) (go _)))
    refine Ev.ite_pos (by omega) (Ev.ite_pos (by omega) ?_)
    by_cases h65 : bt s (i : Int) ≥ 65
    · refine Ev.ite_pos h65 ?_
      by_cases h90 : bt s (i : Int) ≤ 90
      · rw [show lowI (bt s (i : Int)) = bt s (i : Int) + 32 from if_pos ⟨h65, h90⟩]
        refine Ev.ite_pos h90 ?_
        have em : (bt s (i : Int) + 32) % 256 = bt s (i : Int) + 32 := by omega
        rw [em]
        exact Ev.ite_pos (f := fun _ => none) (by rw [size_nums]; simp only [List.length_cons, List.length_nil]; omega) (go _)
      · exact Ev.ite_neg h90 (plain fun z => h90 z.2)
    · exact Ev.ite_neg h65 (plain fun z => h65 z.1)
theorem rlower_ev {s : ByteArray} (hs : s.size ≤ 100000) : Ev (fun k => rectoref03_Lower.f k s) (strOfNums ((bl s).map lowI)) := by
  have := rlower_l hs s.size 0 ⟨#[]⟩ rfl (by show 0 + _ ≤ _; omega)
  exact Ev.cast this ByteArray.empty_append
end Go.Proofs.YtdoapeandigooaaDoor.P
