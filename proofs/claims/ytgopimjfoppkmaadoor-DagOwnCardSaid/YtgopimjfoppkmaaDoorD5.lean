/- Printed functions, each with a proof that the call answers so. -/
import Derived.Test.YtgopimjfoppkmaaDoorD0
import Derived.Test.YtgopimjfoppkmaaDoorD1
import Derived.Test.YtgopimjfoppkmaaDoorD3
import Derived.Test.YtgopimjfoppkmaaDoorD4
namespace Go.Proofs.YtgopimjfoppkmaaDoor.D
open Go.RowKit Go.Proofs.YtgopimjfoppkmaaDoorW.PrintWords Go.Proofs.YtgopimjfoppkmaaDoorW.PrintLast Go.Proofs.YtgopimjfoppkmaaDoorW.PrintMore
attribute [local go_sem] max2_int min2_int max_two min_two max_three min_three max_four min_four   -- for this text's walks alone
set_option linter.unusedVariables false
set_option linter.unusedSimpArgs false

abbrev bD50 : Array Bool := #[false, false, false, false, false, false, false, false, false, false, false, false, false, false, false, false, false, false, false, false, false]
abbrev bD51 : Array Bool := #[true, false, false, false, false, false, false, false, false, false, false, false, false, false, false, false, false, false, false, false, false]
abbrev bD52 : Array Bool := #[true, false, true, false, false, false, false, false, false, false, false, false, false, false, false, false, false, false, false, false, false]
abbrev bD53 : Array Bool := #[true, false, true, true, false, false, false, false, false, false, false, false, false, false, false, false, false, false, false, false, false]
abbrev bD54 : Array Bool := #[true, false, true, true, true, false, false, false, false, false, false, false, false, false, false, false, false, false, false, false, false]
abbrev bD55 : Array Bool := #[true, true, true, true, true, false, false, false, false, false, false, false, false, false, false, false, false, false, false, false, false]
abbrev bD56 : Array Bool := #[true, true, true, true, true, true, false, false, false, false, false, false, false, false, false, false, false, false, false, false, false]
abbrev bD57 : Array Bool := #[true, true, true, true, true, true, true, false, false, false, false, false, false, false, false, false, false, false, false, false, false]
abbrev bD58 : Array Bool := #[true, true, true, true, true, true, true, true, false, false, false, false, false, false, false, false, false, false, false, false, false]
abbrev bD59 : Array Bool := #[true, true, true, true, true, true, true, true, true, false, false, false, false, false, false, false, false, false, false, false, false]
abbrev bD510 : Array Bool := #[true, true, true, true, true, true, true, true, true, true, false, false, false, false, false, false, false, false, false, false, false]
abbrev bD511 : Array Bool := #[true, true, true, true, true, true, true, true, true, true, true, false, false, false, false, false, false, false, false, false, false]
abbrev bD512 : Array Bool := #[true, true, true, true, true, true, true, true, true, true, true, true, false, false, false, false, false, false, false, false, false]
abbrev bD513 : Array Bool := #[true, true, true, true, true, true, true, true, true, true, true, true, true, false, false, false, false, false, false, false, false]
abbrev bD514 : Array Bool := #[true, true, true, true, true, true, true, true, true, true, true, true, true, true, false, false, false, false, false, false, false]
abbrev bD515 : Array Bool := #[true, true, true, true, true, true, true, true, true, true, true, true, true, true, true, true, true, false, false, false, false]
abbrev bD516 : Array Bool := #[true, true, true, true, true, true, true, true, true, true, true, true, true, true, true, true, true, true, false, false, false]
abbrev bD517 : Array Bool := #[true, true, true, true, true, true, true, true, true, true, true, true, true, true, true, true, true, true, true, false, false]
abbrev bD518 : Array Bool := #[true, true, true, true, true, true, true, true, true, true, true, true, true, true, true, true, true, true, true, true, false]
abbrev bD519 : Array Bool := #[true, true, true, true, true, true, true, true, true, true, true, true, true, true, true, true, true, true, true, true, true]
abbrev bD520 : Array Bool := #[true, true, true, true, true, true, true, true, true, true, true, true, true, true, true, false, false, false, false, false, false]
abbrev bD521 : Array Bool := #[true, true, true, true, true, true, true, true, true, true, true, true, true, true, true, true, false, false, false, false, false]
abbrev bD522 : Array Bool := #[false, false, false, false, false, false, false, false, false, false, false, false, false, false, false, false, false, false, false, false, false, false, false, false, false, false, false]
abbrev bD523 : Array Bool := #[true, false, false, false, false, false, false, false, false, false, false, false, false, false, false, false, false, false, false, false, false, false, false, false, false, false, false]
abbrev bD524 : Array Bool := #[true, true, false, false, false, false, false, false, false, false, false, false, false, false, false, false, false, false, false, false, false, false, false, false, false, false, false]
abbrev bD525 : Array Bool := #[true, true, true, false, false, false, false, false, false, false, false, false, false, false, false, false, false, false, false, false, false, false, false, false, false, false, false]
abbrev bD526 : Array Bool := #[true, true, true, true, false, false, false, false, false, false, false, false, false, false, false, false, false, false, false, false, false, false, false, false, false, false, false]
abbrev bD527 : Array Bool := #[true, true, true, true, true, false, false, false, false, false, false, false, false, false, false, false, false, false, false, false, false, false, false, false, false, false, false]
abbrev bD528 : Array Bool := #[true, true, true, true, true, true, false, false, false, false, false, false, false, false, false, false, false, false, false, false, false, false, false, false, false, false, false]
abbrev bD529 : Array Bool := #[true, true, true, true, true, true, true, false, false, false, false, false, false, false, false, false, false, false, false, false, false, false, false, false, false, false, false]
abbrev bD530 : Array Bool := #[true, true, true, true, true, true, true, true, false, false, false, false, false, false, false, false, false, false, false, false, false, false, false, false, false, false, false]
abbrev bD531 : Array Bool := #[true, true, true, true, true, true, true, true, true, false, false, false, false, false, false, false, false, false, false, false, false, false, false, false, false, false, false]
abbrev bD532 : Array Bool := #[true, true, true, true, true, true, true, true, true, true, false, false, false, false, false, false, false, false, false, false, false, false, false, false, false, false, false]
abbrev bD533 : Array Bool := #[true, true, true, true, true, true, true, true, true, true, true, false, false, false, false, false, false, false, false, false, false, false, false, false, false, false, false]
abbrev bD534 : Array Bool := #[true, true, true, true, true, true, true, true, true, true, true, true, false, false, false, false, false, false, false, false, false, false, false, false, false, false, false]
abbrev bD535 : Array Bool := #[true, true, true, true, true, true, true, true, true, true, true, true, true, false, false, false, false, false, false, false, false, false, false, false, false, false, false]
abbrev bD536 : Array Bool := #[true, true, true, true, true, true, true, true, true, true, true, true, true, true, false, false, false, false, false, false, false, false, false, false, false, false, false]
abbrev bD537 : Array Bool := #[true, true, true, true, true, true, true, true, true, true, true, true, true, true, true, false, false, false, false, false, false, false, false, false, false, false, false]
abbrev bD538 : Array Bool := #[true, true, true, true, true, true, true, true, true, true, true, true, true, true, true, true, false, false, false, false, false, false, false, false, false, false, false]
abbrev bD539 : Array Bool := #[true, true, true, true, true, true, true, true, true, true, true, true, true, true, true, true, true, false, false, false, false, false, false, false, false, false, false]
abbrev bD540 : Array Bool := #[true, true, true, true, true, true, true, true, true, true, true, true, true, true, true, true, true, true, false, false, false, false, false, false, false, false, false]
abbrev bD541 : Array Bool := #[true, true, true, true, true, true, true, true, true, true, true, true, true, true, true, true, true, true, true, false, false, false, false, false, false, false, false]
abbrev bD542 : Array Bool := #[true, true, true, true, true, true, true, true, true, true, true, true, true, true, true, true, true, true, true, true, false, false, false, false, false, false, false]
abbrev bD543 : Array Bool := #[true, true, true, true, true, true, true, true, true, true, true, true, true, true, true, true, true, true, true, true, true, false, false, false, false, false, false]
abbrev bD544 : Array Bool := #[true, true, true, true, true, true, true, true, true, true, true, true, true, true, true, true, true, true, true, true, true, true, false, false, false, false, false]
abbrev bD545 : Array Bool := #[true, true, true, true, true, true, true, true, true, true, true, true, true, true, true, true, true, true, true, true, true, true, true, false, false, false, false]
abbrev bD546 : Array Bool := #[true, true, true, true, true, true, true, true, true, true, true, true, true, true, true, true, true, true, true, true, true, true, true, true, false, false, false]
abbrev bD547 : Array Bool := #[true, true, true, true, true, true, true, true, true, true, true, true, true, true, true, true, true, true, true, true, true, true, true, true, true, false, false]
abbrev bD548 : Array Bool := #[true, true, true, true, true, true, true, true, true, true, true, true, true, true, true, true, true, true, true, true, true, true, true, true, true, true, false]
abbrev bD549 : Array Bool := #[true, true, true, true, true, true, true, true, true, true, true, true, true, true, true, true, true, true, true, true, true, true, true, true, true, true, true]
abbrev bD550 : Array Bool := #[true, true, true, true, true, true, true, true, true, true, true, true, true, true, false, true, false, false, false, false, false, false, false, false, false, false, false]
abbrev bD551 : Array Bool := #[true, true, true, true, true, true, true, true, true, true, true, true, true, true, true, true, true, true, true, true, true, false, true, false, false, false, false]
abbrev bD552 : Array Bool := #[true, true, true, true, true, true, true, true, true, true, true, true, true, true, true, true, true, true, true, true, true, false, true, false, true, false, false]
abbrev bD553 : Array Bool := #[true, true, true, true, true, true, true, true, true, true, true, true, true, true, true, true, true, true, true, true, true, true, true, false, true, false, false]
theorem qaD5 {p : Prop} (h : p := by exact any_of HT_.out (by kernel_rfl)) : p := h
theorem qtD5 {p : Prop} (h : p := by exact take_ofW HT_.out HW_.out (by kernel_rfl)) : p := h
theorem qsD50 {p : Prop} (h : p := by simp only [Act.put, List.setIfInBounds_toArray, List.set_cons_zero, List.set_cons_succ, i64_w, i32_w]; rfl) : p := h
theorem qD50 {p : Prop} (h : p := by repeat (first | (with_reducible first | exact HB.out | apply below_alloc | apply pw_below_drewN | apply below_drew1 | refine below_set ?_ GE117.out) | exact HB.out)) : p := h
theorem qD51 {p : Prop} (h : p := by first | (with_reducible assumption) | assumption) : p := h
theorem qD52 {p : Prop} (h : p := by (try simp only [List.map_toArray, List.map_cons, List.map_nil]); first | done | rfl | (simp only [List.length_drop, List.length_take]; rfl)) : p := h
theorem qD53 {p : Prop} (h : p := by repeat (first | (with_reducible first | exact HB.out | apply below_alloc | apply pw_below_drewN | apply below_drew1) | exact HB.out)) : p := h
theorem qD54 {p : Prop} (h : p := by first | rfl | (simp [errW_none, errW_some] <;> rfl) | (simp [*, errW_none, errW_some] <;> rfl)) : p := h
theorem qD55 {p : Prop} (h : p := by repeat (first | exact (Kd.C_below HR122.out HB.out) | (with_reducible refine Kd.C_alloc ?_ _) | (with_reducible refine Kd.C_drewN ?_ _) | (with_reducible refine Kd.C_drew ?_))) : p := h
theorem qD56 {p : Prop} (h : p := by first | rfl | (simp [errW_none, errW_some] <;> rfl) | (simp only [← hji22]; first | rfl | (simp [errW_none, errW_some] <;> rfl)) | (simp [*, errW_none, errW_some] <;> rfl)) : p := h
theorem qD57 {p : Prop} (h : p := by first | rfl | (simp; done) | (simp [*]; done)) : p := h
theorem qD58 {p : Prop} (h : p := by (try simp only [List.map_toArray, List.map_cons, List.map_nil]); first | done | (rw [show (l1_3.take (x31_2 : Int).toNat).length = x31_2.toNat from (by rw [List.length_take]; have h_ : (x31_2 : Int) ≤ (l1_3.length : Int) := of_decide_eq_true qD51; omega)] <;> rfl) | rfl | (simp only [List.length_drop, List.length_take]; rfl)) : p := h
theorem qD59 {p : Prop} (h : p := by exact Aside0.mk (Laid.below HG.out qD50)) : p := h
/-! ### dag_right: function 35 -/
mutual
def dag_right.j0 : Nat → List (S43) → Bool → Int → ByteArray → Int → List Int → Option (Bool)
 | 0, _, _, _, _, _, _ => none
 | k + 1, x0, x27, x118000, x118001, x118002, x118003 => if x27 = true then (some false) else (dag_right.l0 k x0 x118003 (x118003.length : Int) 0 x118000 x118001 x118002 x118003)
def dag_right.l0 : Nat → List (S43) → List Int → Int → Int → Int → ByteArray → Int → List Int → Option (Bool)
 | 0, _, _, _, _, _, _, _, _ => none
 | k + 1, x0, x29, x30, x31, x118000, x118001, x118002, x118003 => if x31 < x30 then (if 0 ≤ x31 then (if x31 < (x29.length : Int) then (if (rd x29 x31) < 1 then (some false) else (if (rd x29 x31) > (x0.length : Int) then (some false) else (if 0 ≤ (wrap64 ((rd x29 x31) - 1)) then (if (wrap64 ((rd x29 x31) - 1)) < (x0.length : Int) then (if ((rd_T43 x0 (wrap64 ((rd x29 x31) - 1))).f1).toList = x118001.toList then (if x31 ≤ (x118003.length : Int) then ((slices_Contains_int_int.f k (x118003.take (x31 : Int).toNat) (rd x29 x31)).bind fun t123 => (if t123 = true then (some false) else (dag_right.l0 k x0 x29 x30 (wrap64 (x31 + 1)) x118000 x118001 x118002 x118003))) else (none)) else (some false)) else (none)) else (none)))) else (none)) else (none)) else (some true)
end
def dag_right.f (k : Nat) (l0 : List (S43)) (a1_0 : Int) (a1_1 : ByteArray) (a1_2 : Int) (l1_3 : List Int) : Option (Bool) := if a1_0 = (wrap64 ((l0.length : Int) + 1)) then ((dag_Title.f k a1_1).bind fun t118 => (if t118 = true then ((dag_parents.f k l0 a1_0 a1_1 a1_2 l1_3).bind fun t119 => (dag_right.j0 k l0 ((l1_3.length : Int) != t119) a1_0 a1_1 a1_2 l1_3)) else (dag_right.j0 k l0 true a1_0 a1_1 a1_2 l1_3))) else (dag_right.j0 k l0 true a1_0 a1_1 a1_2 l1_3)
theorem dag_right.mono_l : ∀ k, (∀ y0 y1 y2 y3 y4 y5, LeO (dag_right.j0 k y0 y1 y2 y3 y4 y5) (dag_right.j0 (k + 1) y0 y1 y2 y3 y4 y5)) ∧ (∀ y0 y1 y2 y3 y4 y5 y6 y7, LeO (dag_right.l0 k y0 y1 y2 y3 y4 y5 y6 y7) (dag_right.l0 (k + 1) y0 y1 y2 y3 y4 y5 y6 y7))
 | 0 => ⟨fun _ _ _ _ _ _ r h => by simp [dag_right.j0] at h, fun _ _ _ _ _ _ _ _ r h => by simp [dag_right.l0] at h⟩
 | k + 1 => by
  obtain ⟨ih0, ih1⟩ := dag_right.mono_l k
  refine ⟨?_, ?_⟩
  · intro y0 y1 y2 y3 y4 y5
    unfold dag_right.j0
    repeat' first
    | (with_reducible exact ih0 _ _ _ _ _ _)
    | (with_reducible exact ih1 _ _ _ _ _ _ _ _)
    | (with_reducible exact dag_Title.mono _ _)
    | (with_reducible exact dag_parents.mono _ _ _ _ _ _)
    | (with_reducible exact slices_Contains_int_int.mono _ _ _)
    | (with_reducible exact LeO.refl _)
    | (with_reducible exact LeO.none _)
    | (with_reducible refine LeO.ite ?_ ?_)
    | (with_reducible refine LeO.bind ?_ (fun _ => ?_))
    | exact ih0 _ _ _ _ _ _
    | exact ih1 _ _ _ _ _ _ _ _
    | exact dag_Title.mono _ _
    | exact dag_parents.mono _ _ _ _ _ _
    | exact slices_Contains_int_int.mono _ _ _
    | exact LeO.none _
    | refine LeO.ite ?_ ?_
    | refine LeO.bind ?_ (fun _ => ?_)
  · intro y0 y1 y2 y3 y4 y5 y6 y7
    unfold dag_right.l0
    repeat' first
    | (with_reducible exact ih0 _ _ _ _ _ _)
    | (with_reducible exact ih1 _ _ _ _ _ _ _ _)
    | (with_reducible exact dag_Title.mono _ _)
    | (with_reducible exact dag_parents.mono _ _ _ _ _ _)
    | (with_reducible exact slices_Contains_int_int.mono _ _ _)
    | (with_reducible exact LeO.refl _)
    | (with_reducible exact LeO.none _)
    | (with_reducible refine LeO.ite ?_ ?_)
    | (with_reducible refine LeO.bind ?_ (fun _ => ?_))
    | exact ih0 _ _ _ _ _ _
    | exact ih1 _ _ _ _ _ _ _ _
    | exact dag_Title.mono _ _
    | exact dag_parents.mono _ _ _ _ _ _
    | exact slices_Contains_int_int.mono _ _ _
    | exact LeO.none _
    | refine LeO.ite ?_ ?_
    | refine LeO.bind ?_ (fun _ => ?_)
theorem dag_right.mono : ∀ a0 a1 a2 a3 a4 k, LeO (dag_right.f k a0 a1 a2 a3 a4) (dag_right.f (k + 1) a0 a1 a2 a3 a4) := by
 intro a0 a1 a2 a3 a4 k
 obtain ⟨ih0, ih1⟩ := dag_right.mono_l k; unfold dag_right.f
 repeat' first
  | (with_reducible exact ih0 _ _ _ _ _ _)
  | (with_reducible exact ih1 _ _ _ _ _ _ _ _)
  | (with_reducible exact dag_Title.mono _ _)
  | (with_reducible exact dag_parents.mono _ _ _ _ _ _)
  | (with_reducible exact slices_Contains_int_int.mono _ _ _)
  | (with_reducible exact LeO.refl _)
  | (with_reducible exact LeO.none _)
  | (with_reducible refine LeO.ite ?_ ?_)
  | (with_reducible refine LeO.bind ?_ (fun _ => ?_))
  | exact ih0 _ _ _ _ _ _
  | exact ih1 _ _ _ _ _ _ _ _
  | exact dag_Title.mono _ _
  | exact dag_parents.mono _ _ _ _ _ _
  | exact slices_Contains_int_int.mono _ _ _
  | exact LeO.none _
  | refine LeO.ite ?_ ?_
  | refine LeO.bind ?_ (fun _ => ?_)
def dag_right.T1 : Bool × List (List Nat × List Nat) := (true, [([], []), ([0], [0]), ([], []), ([2], [2]), ([3], [3]), ([1, 4], [1, 4]), ([5], [5]), ([6], [6]), ([7, 6], [6, 7]), ([8, 6, 6], [6, 8]), ([9, 6], [6, 9]), ([6, 10], [6, 10]), ([11, 9], [11]), ([12], [12]), ([13, 12], [12, 13]), ([14, 12], [12, 14]), ([12], [12]), ([12], [12]), ([16, 17, 12, 12], [12, 16, 17]), ([15, 18, 12], [12, 15, 18]), ([12, 19], [12, 19])])
def dag_right.B1 : List Nat := [0, 1, 0, 4, 12, 31, 63, 127, 255, 511, 1023, 2047, 4095, 8191, 16383, 32767, 8191, 8191, 204799, 524287, 1048575]
theorem dag_right.tab1 : rtab .any (opsOf Tryd.f35 1) = dag_right.T1 := by kernel_rfl
theorem dag_right.bits1 : waitsOk dag_right.T1.2 dag_right.B1 = true := by kernel_rfl
def dag_right.T6 : Bool × List (List Nat × List Nat) := (true, [([], []), ([0], [0]), ([1], [1]), ([2], [2]), ([2], [2]), ([4, 2], [2, 4]), ([3, 5, 2], [2, 3, 5]), ([2, 6], [2, 6]), ([7, 2], [7]), ([8], [8]), ([8], [8]), ([10, 8], [8, 10]), ([9, 11, 8], [8, 9, 11]), ([12, 8], [8, 12]), ([13, 8], [8, 13]), ([8], [8]), ([15, 8], [8, 15]), ([14, 16, 8], [8, 14, 16]), ([8, 17], [8, 17]), ([18, 8], [18]), ([19], [19]), ([20, 19], [19, 20]), ([19], [19]), ([21, 22, 19], [19, 21, 22]), ([19], [19]), ([23, 24, 19, 19], [19, 23, 24]), ([19, 25], [19, 25])])
def dag_right.B6 : List Nat := [0, 1, 3, 7, 7, 23, 63, 127, 255, 511, 511, 1535, 4095, 8191, 16383, 511, 33279, 131071, 262143, 524287, 1048575, 2097151, 1048575, 8388607, 1048575, 33554431, 67108863]
theorem dag_right.tab6 : rtab .any (opsOf Tryd.f35 6) = dag_right.T6 := by kernel_rfl
theorem dag_right.bits6 : waitsOk dag_right.T6.2 dag_right.B6 = true := by kernel_rfl
set_option maxHeartbeats 8000000 in
set_option maxRecDepth 100000 in
theorem dag_right.calls (k : Nat) (A0 : Option Addr) (c0 : Nat) (l0 : List (S43)) (a1_0 : Int) (a1_1 : ByteArray) (a1_2 : Int) (A1_3 : Option Addr) (c1_3 : Nat) (l1_3 : List Int) (r : Bool) (w : World) (hr0 : Kd.C k43 w A0 l0.length l0) (hc0 : l0.length ≤ c0) (hr1_3 : Kd.C (Kd.int .i64) w A1_3 l1_3.length l1_3) (hc1_3 : l1_3.length ≤ c1_3) (h : dag_right.f k l0 a1_0 a1_1 a1_2 l1_3 = some r) (HG : Aside0 (Laid w)) :
 Calls Tryd.prog 35 #[.slice A0 l0.length c0, .agg #[.int .i64 a1_0, .string a1_1, .int .i64 a1_2, .slice A1_3 l1_3.length c1_3]] w fun e w' => e = .returned (.bool r) ∧ Below w.heap.size w w' := by
 have hu43 := Tryd.underlying43; have HR0 := Aside0.mk hr0; have HC0 := Aside0.mk hc0; clear hr0 hc0; have HR1_3 := Aside0.mk hr1_3; have HC1_3 := Aside0.mk hc1_3; clear hr1_3 hc1_3; have HB := Aside0.mk (Below.refl w.heap.size w)
 have H : (if a1_0 = (wrap64 ((l0.length : Int) + 1)) then ((dag_Title.f k a1_1).bind fun t118 => (if t118 = true then ((dag_parents.f k l0 a1_0 a1_1 a1_2 l1_3).bind fun t119 => (dag_right.j0 k l0 ((l1_3.length : Int) != t119) a1_0 a1_1 a1_2 l1_3)) else (dag_right.j0 k l0 true a1_0 a1_1 a1_2 l1_3))) else (dag_right.j0 k l0 true a1_0 a1_1 a1_2 l1_3)) = some r := h
 clear h; have HC3 := Aside0.mk H; clear H
 go_enter Tryd.func35, Tryd.ntmps35
 go_upto_region 1 with (first | ((with_reducible refine gate_dst (N := 3) rfl ?_); (try (refine gate_guard (by rfl) ?_; dsimp only)); refine box_event ?hg (N := 3) ?hd (cs := #[.int .i64 a1_0, .string a1_1, .int .i64 a1_2, .slice A1_3 l1_3.length c1_3]) (t := 43) ?hr ?_; (case hd => rfl); (case hg => rfl); (case hr => first | (go_simp; done) | (go_simp; rfl)); intro gb117 hg w4 hbox hb; have n0_ := Aside0.mk (below_step qD53 hb); have n1_ := Aside0.mk (hbox); have n2_ := Aside0.mk ((by rw [hg]; exact (below_size qD53) : w.heap.size ≤ gb117)); have n3_ := Aside0.mk ((by rw [hg]; exact (below_size qD53) : w.heap.size ≤ gb117)); clear HB; have HB := n0_; have BK117 := n1_; have GW117 := n2_; have GE117 := n3_; clear n0_ n1_ n2_ n3_; clear hb hbox hg))
 (try simp only [Act.put, List.setIfInBounds_toArray, List.set_cons_zero, List.set_cons_succ])
 go_cut [27] (fun v27 wc => ∃ (kq : Nat) (x27_2 : Bool), v27 = .bool x27_2 ∧ Aside0 (dag_right.j0 kq l0 x27_2 a1_0 a1_1 a1_2 l1_3 = some r) ∧ Aside0 (kq ≤ k) ∧ Aside0 (wc.heap[gb117]? = some (.cells #[.int .i64 a1_0, .string a1_1, .int .i64 a1_2, (.slice A1_3 l1_3.length c1_3)] 43 (0, 0))) ∧ Aside0 (Below w.heap.size w wc))
 case first =>
  have H := HC3.out; clear HC3
  by_cases c5 : a1_0 = (wrap64 ((l0.length : Int) + 1))
  · rw [if_pos c5] at H
    have c5b0 : (a1_0 == (wrap64 ((l0.length : Int) + 1))) = true := beq_iff_eq.mpr c5; have c5b1 : (a1_0 != (wrap64 ((l0.length : Int) + 1))) = false := bne_eq_false_iff_eq.mpr c5; clear c5
    (first | rw [c5b0] | (simp only [i64_w, i32_w]; rw [c5b0]) | skip)
    replace H := Option.bind_eq_some_iff.mp H; obtain ⟨t118, A60, H⟩ := H
    replace H : (if t118 = true then ((dag_parents.f k l0 a1_0 a1_1 a1_2 l1_3).bind fun t119 => (dag_right.j0 k l0 ((l1_3.length : Int) != t119) a1_0 a1_1 a1_2 l1_3)) else (dag_right.j0 k l0 true a1_0 a1_1 a1_2 l1_3)) = some r := H
    have A6 := Aside0.mk A60; clear A60
    by_cases c7 : t118 = true
    · subst c7
      have H1 : ((dag_parents.f k l0 a1_0 a1_1 a1_2 l1_3).bind fun t119 => (dag_right.j0 k l0 ((l1_3.length : Int) != t119) a1_0 a1_1 a1_2 l1_3)) = some r := by rw [if_pos rfl] at H; exact H
      clear H; have H := H1; clear H1; replace H := Option.bind_eq_some_iff.mp H; obtain ⟨t119, A80, H⟩ := H; replace H : (dag_right.j0 k l0 ((l1_3.length : Int) != t119) a1_0 a1_1 a1_2 l1_3) = some r := H; have A8 := Aside0.mk A80; clear A80; have H' := Aside0.mk H; clear H
      try go_wp2
      have n0_ := Aside0.mk (blk_drew BK117.out); have n1_ := Aside0.mk (below_drew1 HB.out); clear BK117; clear HB; have BK117 := n0_; have HB := n1_; clear n0_ n1_
      refine start_ (n := 21) (S := fun w' => w'.cell? ⟨gb117, 0, none⟩ = some (.int .i64 a1_0) ∧ w'.cell? ⟨gb117, 1, none⟩ = some (.string a1_1) ∧ w'.cell? ⟨gb117, 2, none⟩ = some (.int .i64 a1_2) ∧ w'.cell? ⟨gb117, 3, none⟩ = some (.slice A1_3 l1_3.length c1_3)) (ds := []) bD50 (by kernel_rfl) rfl rfl ⟨(blk_cell BK117.out 0).trans rfl, (blk_cell BK117.out 1).trans rfl, (blk_cell BK117.out 2).trans rfl, (blk_cell BK117.out 3).trans rfl⟩ (fun hHeld => ?_); refine with_tabW dag_right.tab1 dag_right.bits1 (fun HT_ HW_ => ?_)
      generalize w4.drew = w9 at BK117 HB hHeld ⊢
      refine pure_ (i := 0) (N := some 7) (v := ?_) (a' := ?_) bD51 rfl rfl qaD5 (fun _ _ _ h => h) (Or.inl ⟨by rfl, ?_⟩) ?_ ?_
      rotate_left
      · intro w'
        go_simp
        with_reducible rfl
      rotate_left
      · exact qsD50
      refine pure_ (i := 2) (N := some 9) (v := ?_) (a' := ?_) bD52 rfl rfl qaD5 (fun _ _ _ h => h) (Or.inl ⟨by rfl, ?_⟩) ?_ ?_
      rotate_left
      · intro w'
        go_simp
        with_reducible rfl
      rotate_left
      · exact qsD50
      refine pure_ (i := 3) (N := some 10) (v := ?_) (a' := ?_) bD53 rfl rfl qaD5 (fun _ _ _ h => h) (Or.inl ⟨by rfl, ?_⟩) ?_ ?_
      rotate_left
      · intro w'
        go_simp
        with_reducible rfl
      rotate_left
      · exact qsD50
      refine pure_ (i := 4) (N := some 11) (v := ?_) (a' := ?_) bD54 rfl rfl qaD5 (fun _ _ _ h => h) (Or.inl ⟨by rfl, ?_⟩) ?_ ?_
      rotate_left
      · intro w'
        go_simp
        with_reducible rfl
      rotate_left
      · exact qsD50
      refine take_ (i := 1) (N := some 8) (v := ?_) (a' := ?_) bD55 rfl rfl qtD5 (fun _ _ _ h => h) (Or.inl ⟨by rfl, ?_⟩) hHeld ?_ ?_
      rotate_left
      · rintro w' ⟨s0, s1, s2, s3⟩
        go_simp
        with_reducible rfl
      rotate_left
      · exact qsD50
      refine pure_ (i := 5) (N := some 12) (v := ?_) (a' := ?_) bD56 rfl rfl qaD5 (fun _ _ _ h => h) (Or.inl ⟨by rfl, ?_⟩) ?_ ?_
      rotate_left
      · intro w'
        go_simp
        with_reducible rfl
      rotate_left
      · exact qsD50
      refine pure_ (i := 6) (N := some 13) (v := ?_) (a' := ?_) bD57 rfl rfl qaD5 (fun _ _ _ h => h) (Or.inl ⟨by rfl, ?_⟩) ?_ ?_
      rotate_left
      · intro w'
        go_simp
        with_reducible rfl
      rotate_left
      · exact qsD50
      refine pure_ (i := 7) (N := some 14) (v := ?_) (a' := ?_) bD58 rfl rfl qaD5 (fun _ _ _ h => h) (Or.inl ⟨by rfl, ?_⟩) ?_ ?_
      rotate_left
      · intro w'
        go_simp
        with_reducible rfl
      rotate_left
      · exact qsD50
      refine take_ (i := 8) (N := some 15) (v := ?_) (a' := ?_) bD59 rfl rfl qtD5 (fun _ _ _ h => h) (Or.inl ⟨by rfl, ?_⟩) hHeld ?_ ?_
      rotate_left
      · rintro w' ⟨s0, s1, s2, s3⟩
        go_simp
        with_reducible rfl
      rotate_left
      · exact qsD50
      refine one_ (i := 9) (N := some 16) bD510 rfl rfl (one_of HT_.out (by kernel_rfl)) (by decide) (fun K hK => ?_)
      refine goes_ Tryd.func43 (by kernel_rfl) rfl #[.string a1_1] (by rfl) rfl rfl qD52 ?_
      with_reducible refine (dag_Title.calls k a1_1 true _ A6.out ?side1).mono ?_
      (case side1 => exact qD59)
      rintro e w' ⟨rfl, ⟨nd, rfl⟩⟩
      refine ⟨_, rfl, ?_⟩
      refine hK.out _ _ ⟨(blk_cell BK117.out 0).trans rfl, (blk_cell BK117.out 1).trans rfl, (blk_cell BK117.out 2).trans rfl, (blk_cell BK117.out 3).trans rfl⟩ (fun hHeld => ?_)
      clear hK K
      refine norm_ (a' := ?_) ?_ ?_
      rotate_left
      · show Act.put _ (some 16) _ = _
        simp only [Act.put, List.setIfInBounds_toArray, List.set_cons_zero, List.set_cons_succ, i64_w, i32_w]
        rfl
      refine pure_ (i := 10) (N := some 17) (v := ?_) (a' := ?_) bD511 rfl rfl qaD5 (fun _ _ _ h => h) (Or.inl ⟨by rfl, ?_⟩) ?_ ?_
      rotate_left
      · intro w'
        go_simp
        with_reducible rfl
      rotate_left
      · exact qsD50
      refine pure_ (i := 11) (N := some 18) (v := ?_) (a' := ?_) bD512 rfl rfl qaD5 (fun _ _ _ h => h) (Or.inl ⟨by rfl, ?_⟩) ?_ ?_
      rotate_left
      · intro w'
        go_simp
        with_reducible rfl
      rotate_left
      · exact qsD50
      refine pure_ (i := 12) (N := some 19) (v := ?_) (a' := ?_) bD513 rfl rfl qaD5 (fun _ _ _ h => h) (Or.inl ⟨by rfl, ?_⟩) ?_ ?_
      rotate_left
      · intro w'
        go_simp
        with_reducible rfl
      rotate_left
      · exact qsD50
      refine pure_ (i := 13) (N := some 20) (v := ?_) (a' := ?_) bD514 rfl rfl qaD5 (fun _ _ _ h => h) (Or.inl ⟨by rfl, ?_⟩) ?_ ?_
      rotate_left
      · intro w'
        go_simp
        with_reducible rfl
      rotate_left
      · exact qsD50
      refine pure_ (i := 16) (N := some 23) (v := ?_) (a' := ?_) #[true, true, true, true, true, true, true, true, true, true, true, true, true, true, false, false, true, false, false, false, false] rfl rfl qaD5 (fun _ _ _ h => h) (Or.inl ⟨by rfl, ?_⟩) ?_ ?_
      rotate_left
      · intro w'
        go_simp
        with_reducible rfl
      rotate_left
      · exact qsD50
      refine take_ (i := 14) (N := some 21) (v := ?_) (a' := ?_) #[true, true, true, true, true, true, true, true, true, true, true, true, true, true, true, false, true, false, false, false, false] rfl rfl qtD5 (fun _ _ _ h => h) (Or.inl ⟨by rfl, ?_⟩) hHeld ?_ ?_
      rotate_left
      · rintro w' ⟨s0, s1, s2, s3⟩
        go_simp
        with_reducible rfl
      rotate_left
      · exact qsD50
      refine pure_ (i := 15) (N := some 22) (v := ?_) (a' := ?_) bD515 rfl rfl qaD5 (fun _ _ _ h => h) (Or.inl ⟨by rfl, ?_⟩) ?_ ?_
      rotate_left
      · intro w'
        go_simp
        with_reducible rfl
      rotate_left
      · exact qsD50
      refine take_ (i := 17) (N := some 24) (v := ?_) (a' := ?_) bD516 rfl rfl qtD5 (fun _ _ _ h => h) (Or.inl ⟨by rfl, ?_⟩) hHeld ?_ ?_
      rotate_left
      · rintro w' ⟨s0, s1, s2, s3⟩
        go_simp
        with_reducible rfl
      rotate_left
      · exact qsD50
      refine one_ (i := 18) (N := some 25) bD517 rfl rfl (one_of HT_.out (by kernel_rfl)) (by decide) (fun K hK => ?_)
      refine goes_ Tryd.func44 (by kernel_rfl) rfl #[.slice A0 l0.length c0, .agg #[.int .i64 a1_0, .string a1_1, .int .i64 a1_2, .slice A1_3 l1_3.length c1_3]] (by rfl) rfl rfl qD52 ?_
      with_reducible refine (dag_parents.calls k _ _ l0 a1_0 a1_1 a1_2 _ _ l1_3 t119 _ ?side1 ?side2 ?side3 ?side4 A8.out ?side5).mono ?_
      (case side1 => repeat (first | exact (Kd.C_below HR0.out qD50) | (with_reducible refine Kd.C_alloc ?_ _) | (with_reducible refine Kd.C_drewN ?_ _) | (with_reducible refine Kd.C_drew ?_)))
      (case side2 => exact HC0.out)
      (case side3 => repeat (first | exact (Kd.C_below HR1_3.out qD50) | (with_reducible refine Kd.C_alloc ?_ _) | (with_reducible refine Kd.C_drewN ?_ _) | (with_reducible refine Kd.C_drew ?_)))
      (case side4 => exact HC1_3.out)
      (case side5 => exact qD59)
      rintro e w10 ⟨rfl, hb⟩
      refine ⟨_, rfl, ?_⟩
      have n0_ := Aside0.mk (blk_below (g := gb117) (o := .cells #[.int .i64 a1_0, .string a1_1, .int .i64 a1_2, .slice A1_3 l1_3.length c1_3] 43 (0, 0)) (by (with_reducible repeat (first | refine blk_drewN ?_ _ | refine blk_drew ?_ | refine blk_alloc ?_ _)); exact BK117.out) hb); have n1_ := Aside0.mk (below_step qD50 hb); clear BK117; clear HB; have BK117 := n0_; have HB := n1_; clear n0_ n1_
      (try clear hb)
      (try clear hb2)
      (try clear hk)
      (try clear hi)
      refine hK.out _ _ ⟨(blk_cell BK117.out 0).trans rfl, (blk_cell BK117.out 1).trans rfl, (blk_cell BK117.out 2).trans rfl, (blk_cell BK117.out 3).trans rfl⟩ (fun hHeld => ?_)
      clear hK K
      refine norm_ (a' := ?_) ?_ ?_
      rotate_left
      · show Act.put _ (some 25) _ = _
        simp only [Act.put, List.setIfInBounds_toArray, List.set_cons_zero, List.set_cons_succ, i64_w, i32_w]
        rfl
      refine pure_ (i := 19) (N := some 26) (v := ?_) (a' := ?_) bD518 rfl rfl qaD5 (fun _ _ _ h => h) (Or.inl ⟨by rfl, ?_⟩) ?_ ?_
      rotate_left
      · intro w'
        go_simp
        with_reducible rfl
      rotate_left
      · exact qsD50
      refine pure_ (i := 20) (N := some 27) (v := ?_) (a' := ?_) bD519 rfl rfl qaD5 (fun _ _ _ h => h) (Or.inl ⟨by rfl, ?_⟩) ?_ ?_
      rotate_left
      · intro w'
        go_simp
        with_reducible rfl
      rotate_left
      · exact qsD50
      refine done_ (done_of HT_.out (by kernel_rfl)) ?_
      try go_wp2
      go_meet
      case rel => exact ⟨_, (((l1_3.length : Int) != t119)), qD57, H', ⟨by first | omega | exact Nat.le_refl _⟩, ⟨by (with_reducible repeat (first | refine blk_drewN ?_ _ | refine blk_drew ?_ | refine blk_alloc ?_ _)); exact BK117.out⟩, ⟨qD50⟩⟩
    · replace c7 := Bool.eq_false_iff.mpr c7
      subst c7
      have H1 : (dag_right.j0 k l0 true a1_0 a1_1 a1_2 l1_3) = some r := by rw [if_neg (show ¬ (false = true) by decide)] at H; exact H
      clear H; have H := H1; clear H1; have H' := Aside0.mk H; clear H
      try go_wp2
      have n0_ := Aside0.mk (blk_drew BK117.out); have n1_ := Aside0.mk (below_drew1 HB.out); clear BK117; clear HB; have BK117 := n0_; have HB := n1_; clear n0_ n1_
      refine start_ (n := 21) (S := fun w' => w'.cell? ⟨gb117, 0, none⟩ = some (.int .i64 a1_0) ∧ w'.cell? ⟨gb117, 1, none⟩ = some (.string a1_1) ∧ w'.cell? ⟨gb117, 2, none⟩ = some (.int .i64 a1_2) ∧ w'.cell? ⟨gb117, 3, none⟩ = some (.slice A1_3 l1_3.length c1_3)) (ds := []) bD50 (by kernel_rfl) rfl rfl ⟨(blk_cell BK117.out 0).trans rfl, (blk_cell BK117.out 1).trans rfl, (blk_cell BK117.out 2).trans rfl, (blk_cell BK117.out 3).trans rfl⟩ (fun hHeld => ?_); refine with_tabW dag_right.tab1 dag_right.bits1 (fun HT_ HW_ => ?_)
      generalize w4.drew = w11 at BK117 HB hHeld ⊢
      refine pure_ (i := 0) (N := some 7) (v := ?_) (a' := ?_) bD51 rfl rfl qaD5 (fun _ _ _ h => h) (Or.inl ⟨by rfl, ?_⟩) ?_ ?_
      rotate_left
      · intro w'
        go_simp
        with_reducible rfl
      rotate_left
      · exact qsD50
      refine pure_ (i := 2) (N := some 9) (v := ?_) (a' := ?_) bD52 rfl rfl qaD5 (fun _ _ _ h => h) (Or.inl ⟨by rfl, ?_⟩) ?_ ?_
      rotate_left
      · intro w'
        go_simp
        with_reducible rfl
      rotate_left
      · exact qsD50
      refine pure_ (i := 3) (N := some 10) (v := ?_) (a' := ?_) bD53 rfl rfl qaD5 (fun _ _ _ h => h) (Or.inl ⟨by rfl, ?_⟩) ?_ ?_
      rotate_left
      · intro w'
        go_simp
        with_reducible rfl
      rotate_left
      · exact qsD50
      refine pure_ (i := 4) (N := some 11) (v := ?_) (a' := ?_) bD54 rfl rfl qaD5 (fun _ _ _ h => h) (Or.inl ⟨by rfl, ?_⟩) ?_ ?_
      rotate_left
      · intro w'
        go_simp
        with_reducible rfl
      rotate_left
      · exact qsD50
      refine take_ (i := 1) (N := some 8) (v := ?_) (a' := ?_) bD55 rfl rfl qtD5 (fun _ _ _ h => h) (Or.inl ⟨by rfl, ?_⟩) hHeld ?_ ?_
      rotate_left
      · rintro w' ⟨s0, s1, s2, s3⟩
        go_simp
        with_reducible rfl
      rotate_left
      · exact qsD50
      refine pure_ (i := 5) (N := some 12) (v := ?_) (a' := ?_) bD56 rfl rfl qaD5 (fun _ _ _ h => h) (Or.inl ⟨by rfl, ?_⟩) ?_ ?_
      rotate_left
      · intro w'
        go_simp
        with_reducible rfl
      rotate_left
      · exact qsD50
      refine pure_ (i := 6) (N := some 13) (v := ?_) (a' := ?_) bD57 rfl rfl qaD5 (fun _ _ _ h => h) (Or.inl ⟨by rfl, ?_⟩) ?_ ?_
      rotate_left
      · intro w'
        go_simp
        with_reducible rfl
      rotate_left
      · exact qsD50
      refine pure_ (i := 7) (N := some 14) (v := ?_) (a' := ?_) bD58 rfl rfl qaD5 (fun _ _ _ h => h) (Or.inl ⟨by rfl, ?_⟩) ?_ ?_
      rotate_left
      · intro w'
        go_simp
        with_reducible rfl
      rotate_left
      · exact qsD50
      refine take_ (i := 8) (N := some 15) (v := ?_) (a' := ?_) bD59 rfl rfl qtD5 (fun _ _ _ h => h) (Or.inl ⟨by rfl, ?_⟩) hHeld ?_ ?_
      rotate_left
      · rintro w' ⟨s0, s1, s2, s3⟩
        go_simp
        with_reducible rfl
      rotate_left
      · exact qsD50
      refine one_ (i := 9) (N := some 16) bD510 rfl rfl (one_of HT_.out (by kernel_rfl)) (by decide) (fun K hK => ?_)
      refine goes_ Tryd.func43 (by kernel_rfl) rfl #[.string a1_1] (by rfl) rfl rfl qD52 ?_
      with_reducible refine (dag_Title.calls k a1_1 false _ A6.out ?side1).mono ?_
      (case side1 => exact qD59)
      rintro e w' ⟨rfl, ⟨nd, rfl⟩⟩
      refine ⟨_, rfl, ?_⟩
      refine hK.out _ _ ⟨(blk_cell BK117.out 0).trans rfl, (blk_cell BK117.out 1).trans rfl, (blk_cell BK117.out 2).trans rfl, (blk_cell BK117.out 3).trans rfl⟩ (fun hHeld => ?_)
      clear hK K
      refine norm_ (a' := ?_) ?_ ?_
      rotate_left
      · show Act.put _ (some 16) _ = _
        simp only [Act.put, List.setIfInBounds_toArray, List.set_cons_zero, List.set_cons_succ, i64_w, i32_w]
        rfl
      refine pure_ (i := 10) (N := some 17) (v := ?_) (a' := ?_) bD511 rfl rfl qaD5 (fun _ _ _ h => h) (Or.inl ⟨by rfl, ?_⟩) ?_ ?_
      rotate_left
      · intro w'
        go_simp
        with_reducible rfl
      rotate_left
      · exact qsD50
      refine pure_ (i := 11) (N := some 18) (v := ?_) (a' := ?_) bD512 rfl rfl qaD5 (fun _ _ _ h => h) (Or.inl ⟨by rfl, ?_⟩) ?_ ?_
      rotate_left
      · intro w'
        go_simp
        with_reducible rfl
      rotate_left
      · exact qsD50
      refine pure_ (i := 12) (N := some 19) (v := ?_) (a' := ?_) bD513 rfl rfl qaD5 (fun _ _ _ h => h) (Or.inl ⟨by rfl, ?_⟩) ?_ ?_
      rotate_left
      · intro w'
        go_simp
        with_reducible rfl
      rotate_left
      · exact qsD50
      refine pure_ (i := 13) (N := some 20) (v := undef) (a' := ?_) bD514 rfl rfl qaD5 (fun _ _ _ h => h) (Or.inr ⟨by rfl, rfl⟩) ?_ ?_
      rotate_left
      · exact qsD50
      refine pure_ (i := 14) (N := some 21) (v := undef) (a' := ?_) bD520 rfl rfl qaD5 (fun _ _ _ h => h) (Or.inr ⟨by rfl, rfl⟩) ?_ ?_
      rotate_left
      · exact qsD50
      refine pure_ (i := 15) (N := some 22) (v := undef) (a' := ?_) bD521 rfl rfl qaD5 (fun _ _ _ h => h) (Or.inr ⟨by rfl, rfl⟩) ?_ ?_
      rotate_left
      · exact qsD50
      refine pure_ (i := 16) (N := some 23) (v := undef) (a' := ?_) bD515 rfl rfl qaD5 (fun _ _ _ h => h) (Or.inr ⟨by rfl, rfl⟩) ?_ ?_
      rotate_left
      · exact qsD50
      refine pure_ (i := 17) (N := some 24) (v := undef) (a' := ?_) bD516 rfl rfl qaD5 (fun _ _ _ h => h) (Or.inr ⟨by rfl, rfl⟩) ?_ ?_
      rotate_left
      · exact qsD50
      refine pure_ (i := 18) (N := some 25) (v := undef) (a' := ?_) bD517 rfl rfl qaD5 (fun _ _ _ h => h) (Or.inr ⟨by rfl, rfl⟩) ?_ ?_
      rotate_left
      · exact qsD50
      refine pure_ (i := 19) (N := some 26) (v := undef) (a' := ?_) bD518 rfl rfl qaD5 (fun _ _ _ h => h) (Or.inr ⟨by rfl, rfl⟩) ?_ ?_
      rotate_left
      · exact qsD50
      refine pure_ (i := 20) (N := some 27) (v := ?_) (a' := ?_) bD519 rfl rfl qaD5 (fun _ _ _ h => h) (Or.inl ⟨by rfl, ?_⟩) ?_ ?_
      rotate_left
      · intro w'
        go_simp
        with_reducible rfl
      rotate_left
      · exact qsD50
      refine done_ (done_of HT_.out (by kernel_rfl)) ?_
      try go_wp2
      go_meet
      case rel => exact ⟨_, (true), qD57, H', ⟨by first | omega | exact Nat.le_refl _⟩, ⟨by (with_reducible repeat (first | refine blk_drewN ?_ _ | refine blk_drew ?_ | refine blk_alloc ?_ _)); exact BK117.out⟩, ⟨qD50⟩⟩
  · rw [if_neg c5] at H
    have c5b0 : (a1_0 == (wrap64 ((l0.length : Int) + 1))) = false := beq_eq_false_iff_ne.mpr c5; have c5b1 : (a1_0 != (wrap64 ((l0.length : Int) + 1))) = true := bne_iff_ne.mpr c5
    (first | rw [c5b0] | (simp only [i64_w, i32_w]; rw [c5b0]) | skip)
    have H' := Aside0.mk H; clear H
    try go_wp2
    have n0_ := Aside0.mk (blk_drew BK117.out); have n1_ := Aside0.mk (below_drew1 HB.out); clear BK117; clear HB; have BK117 := n0_; have HB := n1_; clear n0_ n1_
    refine start_ (n := 21) (S := fun w' => w'.cell? ⟨gb117, 0, none⟩ = some (.int .i64 a1_0) ∧ w'.cell? ⟨gb117, 1, none⟩ = some (.string a1_1) ∧ w'.cell? ⟨gb117, 2, none⟩ = some (.int .i64 a1_2) ∧ w'.cell? ⟨gb117, 3, none⟩ = some (.slice A1_3 l1_3.length c1_3)) (ds := []) bD50 (by kernel_rfl) rfl rfl ⟨(blk_cell BK117.out 0).trans rfl, (blk_cell BK117.out 1).trans rfl, (blk_cell BK117.out 2).trans rfl, (blk_cell BK117.out 3).trans rfl⟩ (fun hHeld => ?_); refine with_tabW dag_right.tab1 dag_right.bits1 (fun HT_ HW_ => ?_)
    generalize w4.drew = w12 at BK117 HB hHeld ⊢
    refine pure_ (i := 0) (N := some 7) (v := ?_) (a' := ?_) bD51 rfl rfl qaD5 (fun _ _ _ h => h) (Or.inl ⟨by rfl, ?_⟩) ?_ ?_
    rotate_left
    · intro w'
      go_simp
      with_reducible rfl
    rotate_left
    · exact qsD50
    refine pure_ (i := 2) (N := some 9) (v := ?_) (a' := ?_) bD52 rfl rfl qaD5 (fun _ _ _ h => h) (Or.inl ⟨by rfl, ?_⟩) ?_ ?_
    rotate_left
    · intro w'
      go_simp
      with_reducible rfl
    rotate_left
    · exact qsD50
    refine pure_ (i := 3) (N := some 10) (v := ?_) (a' := ?_) bD53 rfl rfl qaD5 (fun _ _ _ h => h) (Or.inl ⟨by rfl, ?_⟩) ?_ ?_
    rotate_left
    · intro w'
      go_simp
      with_reducible rfl
    rotate_left
    · exact qsD50
    refine pure_ (i := 4) (N := some 11) (v := ?_) (a' := ?_) bD54 rfl rfl qaD5 (fun _ _ _ h => h) (Or.inl ⟨by rfl, ?_⟩) ?_ ?_
    rotate_left
    · intro w'
      go_simp
      with_reducible rfl
    rotate_left
    · exact qsD50
    refine take_ (i := 1) (N := some 8) (v := ?_) (a' := ?_) bD55 rfl rfl qtD5 (fun _ _ _ h => h) (Or.inl ⟨by rfl, ?_⟩) hHeld ?_ ?_
    rotate_left
    · rintro w' ⟨s0, s1, s2, s3⟩
      go_simp
      with_reducible rfl
    rotate_left
    · exact qsD50
    refine pure_ (i := 5) (N := some 12) (v := ?_) (a' := ?_) bD56 rfl rfl qaD5 (fun _ _ _ h => h) (Or.inl ⟨by rfl, ?_⟩) ?_ ?_
    rotate_left
    · intro w'
      go_simp
      with_reducible rfl
    rotate_left
    · exact qsD50
    refine pure_ (i := 6) (N := some 13) (v := ?_) (a' := ?_) bD57 rfl rfl qaD5 (fun _ _ _ h => h) (Or.inl ⟨by rfl, ?_⟩) ?_ ?_
    rotate_left
    · intro w'
      go_simp
      with_reducible rfl
    rotate_left
    · exact qsD50
    refine pure_ (i := 7) (N := some 14) (v := undef) (a' := ?_) bD58 rfl rfl qaD5 (fun _ _ _ h => h) (Or.inr ⟨by rfl, rfl⟩) ?_ ?_
    rotate_left
    · exact qsD50
    refine pure_ (i := 8) (N := some 15) (v := undef) (a' := ?_) bD59 rfl rfl qaD5 (fun _ _ _ h => h) (Or.inr ⟨by rfl, rfl⟩) ?_ ?_
    rotate_left
    · exact qsD50
    refine pure_ (i := 9) (N := some 16) (v := undef) (a' := ?_) bD510 rfl rfl qaD5 (fun _ _ _ h => h) (Or.inr ⟨by rfl, rfl⟩) ?_ ?_
    rotate_left
    · exact qsD50
    refine pure_ (i := 10) (N := some 17) (v := undef) (a' := ?_) bD511 rfl rfl qaD5 (fun _ _ _ h => h) (Or.inr ⟨by rfl, rfl⟩) ?_ ?_
    rotate_left
    · exact qsD50
    refine pure_ (i := 11) (N := some 18) (v := ?_) (a' := ?_) bD512 rfl rfl qaD5 (fun _ _ _ h => h) (Or.inl ⟨by rfl, ?_⟩) ?_ ?_
    rotate_left
    · intro w'
      go_simp
      with_reducible rfl
    rotate_left
    · exact qsD50
    refine pure_ (i := 12) (N := some 19) (v := ?_) (a' := ?_) bD513 rfl rfl qaD5 (fun _ _ _ h => h) (Or.inl ⟨by rfl, ?_⟩) ?_ ?_
    rotate_left
    · intro w'
      go_simp
      with_reducible rfl
    rotate_left
    · exact qsD50
    refine pure_ (i := 13) (N := some 20) (v := undef) (a' := ?_) bD514 rfl rfl qaD5 (fun _ _ _ h => h) (Or.inr ⟨by rfl, rfl⟩) ?_ ?_
    rotate_left
    · exact qsD50
    refine pure_ (i := 14) (N := some 21) (v := undef) (a' := ?_) bD520 rfl rfl qaD5 (fun _ _ _ h => h) (Or.inr ⟨by rfl, rfl⟩) ?_ ?_
    rotate_left
    · exact qsD50
    refine pure_ (i := 15) (N := some 22) (v := undef) (a' := ?_) bD521 rfl rfl qaD5 (fun _ _ _ h => h) (Or.inr ⟨by rfl, rfl⟩) ?_ ?_
    rotate_left
    · exact qsD50
    refine pure_ (i := 16) (N := some 23) (v := undef) (a' := ?_) bD515 rfl rfl qaD5 (fun _ _ _ h => h) (Or.inr ⟨by rfl, rfl⟩) ?_ ?_
    rotate_left
    · exact qsD50
    refine pure_ (i := 17) (N := some 24) (v := undef) (a' := ?_) bD516 rfl rfl qaD5 (fun _ _ _ h => h) (Or.inr ⟨by rfl, rfl⟩) ?_ ?_
    rotate_left
    · exact qsD50
    refine pure_ (i := 18) (N := some 25) (v := undef) (a' := ?_) bD517 rfl rfl qaD5 (fun _ _ _ h => h) (Or.inr ⟨by rfl, rfl⟩) ?_ ?_
    rotate_left
    · exact qsD50
    refine pure_ (i := 19) (N := some 26) (v := undef) (a' := ?_) bD518 rfl rfl qaD5 (fun _ _ _ h => h) (Or.inr ⟨by rfl, rfl⟩) ?_ ?_
    rotate_left
    · exact qsD50
    refine pure_ (i := 20) (N := some 27) (v := ?_) (a' := ?_) bD519 rfl rfl qaD5 (fun _ _ _ h => h) (Or.inl ⟨by rfl, ?_⟩) ?_ ?_
    rotate_left
    · intro w'
      go_simp
      with_reducible rfl
    rotate_left
    · exact qsD50
    refine done_ (done_of HT_.out (by kernel_rfl)) ?_
    try go_wp2
    go_meet
    case rel => exact ⟨_, (true), qD57, H', ⟨by first | omega | exact Nat.le_refl _⟩, ⟨by (with_reducible repeat (first | refine blk_drewN ?_ _ | refine blk_drew ?_ | refine blk_alloc ?_ _)); exact BK117.out⟩, ⟨qD50⟩⟩
 case rest =>
  clear HC3; (try clear c1); (try clear p2); (try clear c3); (try clear c4); (try clear c5); (try clear c5b0); (try clear c5b1); (try clear p6); (try clear c7); obtain ⟨kq, x27_2, rfl, HA, HJ2, BK117, HB⟩ := hcut
  cases kq with
  | zero => exact absurd HA.out (by simp [dag_right.j0])
  | succ kj2 =>
   have H := HA.out; clear HA; simp only [dag_right.j0] at H
   by_cases c13 : x27_2 = true
   · subst c13
     have H1 : (some false) = some r := by rw [if_pos rfl] at H; exact H
     clear H; have H := H1; clear H1; obtain rfl := Option.some.inj H
     go_wp2
     go_ret
     exact ⟨qD54, qD50⟩
   · replace c13 := Bool.eq_false_iff.mpr c13
     subst c13
     have H1 : (dag_right.l0 kj2 l0 l1_3 (l1_3.length : Int) 0 a1_0 a1_1 a1_2 l1_3) = some r := by rw [if_neg (show ¬ (false = true) by decide)] at H; exact H
     clear H; have H := H1; clear H1; have H' := Aside0.mk H; clear H; have hcz14_0 : wc.cell? ⟨gb117, 0, none⟩ = some (.int .i64 a1_0) := (blk_cell BK117.out 0).trans rfl; have hcz14_1 : wc.cell? ⟨gb117, 1, none⟩ = some (.string a1_1) := (blk_cell BK117.out 1).trans rfl; have hcz14_2 : wc.cell? ⟨gb117, 2, none⟩ = some (.int .i64 a1_2) := (blk_cell BK117.out 2).trans rfl; have hcz14_3 : wc.cell? ⟨gb117, 3, none⟩ = some (.slice A1_3 l1_3.length c1_3) := (blk_cell BK117.out 3).trans rfl; have hfz14_0 := blk_frozen BK117.out 0; have hfz14_1 := blk_frozen BK117.out 1; have hfz14_2 := blk_frozen BK117.out 2; have hfz14_3 := blk_frozen BK117.out 3
     go_wp2
     go_loopg [31] kj2 (fun kq v31 w' => ∃ (x31_2 : Int), v31 = .int .i64 x31_2 ∧ Aside0 (dag_right.l0 kq l0 l1_3 (l1_3.length : Int) x31_2 a1_0 a1_1 a1_2 l1_3 = some r) ∧ Aside0 (kq ≤ kj2) ∧ Aside0 (w'.heap[gb117]? = some (.cells #[.int .i64 a1_0, .string a1_1, .int .i64 a1_2, (.slice A1_3 l1_3.length c1_3)] 43 (0, 0))) ∧ Aside0 (Below w.heap.size w w'))
     case atStart => exact ⟨(0), qD57, H', ⟨Nat.le_refl _⟩, ⟨by (with_reducible repeat (first | refine blk_drewN ?_ _ | refine blk_drew ?_ | refine blk_alloc ?_ _)); exact BK117.out⟩, ⟨qD50⟩⟩
     case round =>
      clear H'; (try clear c1); (try clear p2); (try clear c3); (try clear c4); (try clear c5); (try clear c5b0); (try clear c5b1); (try clear p6); (try clear c7); (try clear c13); (try clear hcz14_0); (try clear hcz14_1); (try clear hcz14_2); (try clear hcz14_3); (try clear hfz14_0); (try clear hfz14_1); (try clear hfz14_2); (try clear hfz14_3); (try clear p2); (try clear p6); obtain ⟨x31_2, rfl, HA, HK2, BK117, HB⟩ := hrel
      cases gk with
      | zero => exact absurd HA.out (by simp [dag_right.l0])
      | succ k2 =>
       have H := HA.out; clear HA; simp only [dag_right.l0] at H
       by_cases c15 : x31_2 < (l1_3.length : Int)
       · rw [if_pos c15] at H
         have c15b0 : decide (x31_2 < (l1_3.length : Int)) = true := decide_eq_true c15; clear c15
         by_cases c16 : 0 ≤ x31_2
         · rw [if_pos c16] at H
           have c16b0 : decide (0 ≤ x31_2) = true := decide_eq_true c16; clear c16
           by_cases c17 : x31_2 < (l1_3.length : Int)
           · rw [if_pos c17] at H
             have c17b0 : decide (x31_2 < (l1_3.length : Int)) = true := decide_eq_true c17; clear c17
             by_cases c18 : (rd l1_3 x31_2) < 1
             · rw [if_pos c18] at H
               have c18b0 : decide ((rd l1_3 x31_2) < 1) = true := decide_eq_true c18; clear c18; obtain rfl := Option.some.inj H; have p120 : 0 ≤ (x31_2 : Int) := of_decide_eq_true qD51; have q120 : x31_2 < (l1_3.length : Int) := of_decide_eq_true qD51; obtain ⟨ad120, e120, hx120_0⟩ := Kd.at_int HR1_3.out x31_2 p120 q120; cases e120; replace hx120_0 := (HB.out.cell (World.block_lt_of_cell? w _ hx120_0)).trans hx120_0; replace p120 := eq_true p120; replace q120 := eq_true q120
               try go_wp2
               have n0_ := Aside0.mk (blk_drew BK117.out); have n1_ := Aside0.mk (below_drew1 HB.out); clear BK117; clear HB; have BK117 := n0_; have HB := n1_; clear n0_ n1_
               refine start_ (n := 27) (S := fun w' => True) (ds := []) bD522 (by kernel_rfl) rfl rfl trivial (fun hHeld => ?_); refine with_tabW dag_right.tab6 dag_right.bits6 (fun HT_ HW_ => ?_)
               generalize wr.drew = w19 at BK117 HB hHeld ⊢
               refine pure_ (i := 0) (N := some 36) (v := ?_) (a' := ?_) bD523 rfl rfl qaD5 (fun _ _ _ h => h) (Or.inl ⟨by rfl, ?_⟩) ?_ ?_
               rotate_left
               · intro w'
                 go_simp
                 with_reducible rfl
               rotate_left
               · exact qsD50
               refine pure_ (i := 1) (N := some 37) (v := ?_) (a' := ?_) bD524 rfl rfl qaD5 (fun _ _ _ h => h) (Or.inl ⟨by rfl, ?_⟩) ?_ ?_
               rotate_left
               · intro w'
                 go_simp
                 with_reducible rfl
               rotate_left
               · exact qsD50
               refine pure_ (i := 2) (N := some 38) (v := ?_) (a' := ?_) bD525 rfl rfl qaD5 (fun _ _ _ h => h) (Or.inl ⟨by rfl, ?_⟩) ?_ ?_
               rotate_left
               · intro w'
                 go_simp
                 with_reducible rfl
               rotate_left
               · exact qsD50
               refine pure_ (i := 3) (N := some 39) (v := undef) (a' := ?_) bD526 rfl rfl qaD5 (fun _ _ _ h => h) (Or.inr ⟨by rfl, rfl⟩) ?_ ?_
               rotate_left
               · exact qsD50
               refine pure_ (i := 4) (N := some 40) (v := undef) (a' := ?_) bD527 rfl rfl qaD5 (fun _ _ _ h => h) (Or.inr ⟨by rfl, rfl⟩) ?_ ?_
               rotate_left
               · exact qsD50
               refine pure_ (i := 5) (N := some 41) (v := undef) (a' := ?_) bD528 rfl rfl qaD5 (fun _ _ _ h => h) (Or.inr ⟨by rfl, rfl⟩) ?_ ?_
               rotate_left
               · exact qsD50
               refine pure_ (i := 6) (N := some 42) (v := undef) (a' := ?_) bD529 rfl rfl qaD5 (fun _ _ _ h => h) (Or.inr ⟨by rfl, rfl⟩) ?_ ?_
               rotate_left
               · exact qsD50
               refine pure_ (i := 7) (N := some 43) (v := ?_) (a' := ?_) bD530 rfl rfl qaD5 (fun _ _ _ h => h) (Or.inl ⟨by rfl, ?_⟩) ?_ ?_
               rotate_left
               · intro w'
                 go_simp
                 with_reducible rfl
               rotate_left
               · exact qsD50
               refine pure_ (i := 8) (N := some 44) (v := ?_) (a' := ?_) bD531 rfl rfl qaD5 (fun _ _ _ h => h) (Or.inl ⟨by rfl, ?_⟩) ?_ ?_
               rotate_left
               · intro w'
                 go_simp
                 with_reducible rfl
               rotate_left
               · exact qsD50
               refine pure_ (i := 9) (N := some 45) (v := undef) (a' := ?_) bD532 rfl rfl qaD5 (fun _ _ _ h => h) (Or.inr ⟨by rfl, rfl⟩) ?_ ?_
               rotate_left
               · exact qsD50
               refine pure_ (i := 10) (N := some 46) (v := undef) (a' := ?_) bD533 rfl rfl qaD5 (fun _ _ _ h => h) (Or.inr ⟨by rfl, rfl⟩) ?_ ?_
               rotate_left
               · exact qsD50
               refine pure_ (i := 11) (N := some 47) (v := undef) (a' := ?_) bD534 rfl rfl qaD5 (fun _ _ _ h => h) (Or.inr ⟨by rfl, rfl⟩) ?_ ?_
               rotate_left
               · exact qsD50
               refine pure_ (i := 12) (N := some 48) (v := undef) (a' := ?_) bD535 rfl rfl qaD5 (fun _ _ _ h => h) (Or.inr ⟨by rfl, rfl⟩) ?_ ?_
               rotate_left
               · exact qsD50
               refine pure_ (i := 13) (N := some 49) (v := undef) (a' := ?_) bD536 rfl rfl qaD5 (fun _ _ _ h => h) (Or.inr ⟨by rfl, rfl⟩) ?_ ?_
               rotate_left
               · exact qsD50
               refine pure_ (i := 14) (N := some 50) (v := undef) (a' := ?_) bD537 rfl rfl qaD5 (fun _ _ _ h => h) (Or.inr ⟨by rfl, rfl⟩) ?_ ?_
               rotate_left
               · exact qsD50
               refine pure_ (i := 15) (N := some 51) (v := undef) (a' := ?_) bD538 rfl rfl qaD5 (fun _ _ _ h => h) (Or.inr ⟨by rfl, rfl⟩) ?_ ?_
               rotate_left
               · exact qsD50
               refine pure_ (i := 16) (N := some 52) (v := undef) (a' := ?_) bD539 rfl rfl qaD5 (fun _ _ _ h => h) (Or.inr ⟨by rfl, rfl⟩) ?_ ?_
               rotate_left
               · exact qsD50
               refine pure_ (i := 17) (N := some 53) (v := undef) (a' := ?_) bD540 rfl rfl qaD5 (fun _ _ _ h => h) (Or.inr ⟨by rfl, rfl⟩) ?_ ?_
               rotate_left
               · exact qsD50
               refine pure_ (i := 18) (N := some 54) (v := ?_) (a' := ?_) bD541 rfl rfl qaD5 (fun _ _ _ h => h) (Or.inl ⟨by rfl, ?_⟩) ?_ ?_
               rotate_left
               · intro w'
                 go_simp
                 with_reducible rfl
               rotate_left
               · exact qsD50
               refine pure_ (i := 19) (N := some 55) (v := ?_) (a' := ?_) bD542 rfl rfl qaD5 (fun _ _ _ h => h) (Or.inl ⟨by rfl, ?_⟩) ?_ ?_
               rotate_left
               · intro w'
                 go_simp
                 with_reducible rfl
               rotate_left
               · exact qsD50
               refine pure_ (i := 20) (N := some 56) (v := undef) (a' := ?_) bD543 rfl rfl qaD5 (fun _ _ _ h => h) (Or.inr ⟨by rfl, rfl⟩) ?_ ?_
               rotate_left
               · exact qsD50
               refine pure_ (i := 21) (N := some 57) (v := undef) (a' := ?_) bD544 rfl rfl qaD5 (fun _ _ _ h => h) (Or.inr ⟨by rfl, rfl⟩) ?_ ?_
               rotate_left
               · exact qsD50
               refine pure_ (i := 22) (N := some 58) (v := undef) (a' := ?_) bD545 rfl rfl qaD5 (fun _ _ _ h => h) (Or.inr ⟨by rfl, rfl⟩) ?_ ?_
               rotate_left
               · exact qsD50
               refine pure_ (i := 23) (N := some 59) (v := undef) (a' := ?_) bD546 rfl rfl qaD5 (fun _ _ _ h => h) (Or.inr ⟨by rfl, rfl⟩) ?_ ?_
               rotate_left
               · exact qsD50
               refine pure_ (i := 24) (N := some 60) (v := undef) (a' := ?_) bD547 rfl rfl qaD5 (fun _ _ _ h => h) (Or.inr ⟨by rfl, rfl⟩) ?_ ?_
               rotate_left
               · exact qsD50
               refine pure_ (i := 25) (N := some 61) (v := undef) (a' := ?_) bD548 rfl rfl qaD5 (fun _ _ _ h => h) (Or.inr ⟨by rfl, rfl⟩) ?_ ?_
               rotate_left
               · exact qsD50
               refine pure_ (i := 26) (N := some 62) (v := ?_) (a' := ?_) bD549 rfl rfl qaD5 (fun _ _ _ h => h) (Or.inl ⟨by rfl, ?_⟩) ?_ ?_
               rotate_left
               · intro w'
                 go_simp
                 with_reducible rfl
               rotate_left
               · exact qsD50
               refine done_ (done_of HT_.out (by kernel_rfl)) ?_
               try go_wp2
               go_ret
               exact ⟨qD54, qD50⟩
             · rw [if_neg c18] at H
               have c18b0 : decide ((rd l1_3 x31_2) < 1) = false := decide_eq_false c18; clear c18
               by_cases c20 : (rd l1_3 x31_2) > (l0.length : Int)
               · rw [if_pos c20] at H
                 have c20b0 : decide ((l0.length : Int) < (rd l1_3 x31_2)) = true := decide_eq_true c20; clear c20; obtain rfl := Option.some.inj H; have p120 : 0 ≤ (x31_2 : Int) := of_decide_eq_true qD51; have q120 : x31_2 < (l1_3.length : Int) := of_decide_eq_true qD51; obtain ⟨ad120, e120, hx120_0⟩ := Kd.at_int HR1_3.out x31_2 p120 q120; cases e120; replace hx120_0 := (HB.out.cell (World.block_lt_of_cell? w _ hx120_0)).trans hx120_0; replace p120 := eq_true p120; replace q120 := eq_true q120
                 try go_wp2
                 have n0_ := Aside0.mk (blk_drew BK117.out); have n1_ := Aside0.mk (below_drew1 HB.out); clear BK117; clear HB; have BK117 := n0_; have HB := n1_; clear n0_ n1_
                 refine start_ (n := 27) (S := fun w' => True) (ds := []) bD522 (by kernel_rfl) rfl rfl trivial (fun hHeld => ?_); refine with_tabW dag_right.tab6 dag_right.bits6 (fun HT_ HW_ => ?_)
                 generalize wr.drew = w21 at BK117 HB hHeld ⊢
                 refine pure_ (i := 0) (N := some 36) (v := ?_) (a' := ?_) bD523 rfl rfl qaD5 (fun _ _ _ h => h) (Or.inl ⟨by rfl, ?_⟩) ?_ ?_
                 rotate_left
                 · intro w'
                   go_simp
                   with_reducible rfl
                 rotate_left
                 · exact qsD50
                 refine pure_ (i := 1) (N := some 37) (v := ?_) (a' := ?_) bD524 rfl rfl qaD5 (fun _ _ _ h => h) (Or.inl ⟨by rfl, ?_⟩) ?_ ?_
                 rotate_left
                 · intro w'
                   go_simp
                   with_reducible rfl
                 rotate_left
                 · exact qsD50
                 refine pure_ (i := 2) (N := some 38) (v := ?_) (a' := ?_) bD525 rfl rfl qaD5 (fun _ _ _ h => h) (Or.inl ⟨by rfl, ?_⟩) ?_ ?_
                 rotate_left
                 · intro w'
                   go_simp
                   with_reducible rfl
                 rotate_left
                 · exact qsD50
                 refine pure_ (i := 3) (N := some 39) (v := ?_) (a' := ?_) bD526 rfl rfl qaD5 (fun _ _ _ h => h) (Or.inl ⟨by rfl, ?_⟩) ?_ ?_
                 rotate_left
                 · intro w'
                   go_simp
                   with_reducible rfl
                 rotate_left
                 · exact qsD50
                 refine pure_ (i := 4) (N := some 40) (v := ?_) (a' := ?_) bD527 rfl rfl qaD5 (fun _ _ _ h => h) (Or.inl ⟨by rfl, ?_⟩) ?_ ?_
                 rotate_left
                 · intro w'
                   go_simp
                   with_reducible rfl
                 rotate_left
                 · exact qsD50
                 refine pure_ (i := 5) (N := some 41) (v := ?_) (a' := ?_) bD528 rfl rfl qaD5 (fun _ _ _ h => h) (Or.inl ⟨by rfl, ?_⟩) ?_ ?_
                 rotate_left
                 · intro w'
                   go_simp
                   with_reducible rfl
                 rotate_left
                 · exact qsD50
                 refine pure_ (i := 6) (N := some 42) (v := ?_) (a' := ?_) bD529 rfl rfl qaD5 (fun _ _ _ h => h) (Or.inl ⟨by rfl, ?_⟩) ?_ ?_
                 rotate_left
                 · intro w'
                   go_simp
                   with_reducible rfl
                 rotate_left
                 · exact qsD50
                 refine pure_ (i := 7) (N := some 43) (v := ?_) (a' := ?_) bD530 rfl rfl qaD5 (fun _ _ _ h => h) (Or.inl ⟨by rfl, ?_⟩) ?_ ?_
                 rotate_left
                 · intro w'
                   go_simp
                   with_reducible rfl
                 rotate_left
                 · exact qsD50
                 refine pure_ (i := 8) (N := some 44) (v := ?_) (a' := ?_) bD531 rfl rfl qaD5 (fun _ _ _ h => h) (Or.inl ⟨by rfl, ?_⟩) ?_ ?_
                 rotate_left
                 · intro w'
                   go_simp
                   with_reducible rfl
                 rotate_left
                 · exact qsD50
                 refine pure_ (i := 9) (N := some 45) (v := undef) (a' := ?_) bD532 rfl rfl qaD5 (fun _ _ _ h => h) (Or.inr ⟨by rfl, rfl⟩) ?_ ?_
                 rotate_left
                 · exact qsD50
                 refine pure_ (i := 10) (N := some 46) (v := undef) (a' := ?_) bD533 rfl rfl qaD5 (fun _ _ _ h => h) (Or.inr ⟨by rfl, rfl⟩) ?_ ?_
                 rotate_left
                 · exact qsD50
                 refine pure_ (i := 11) (N := some 47) (v := undef) (a' := ?_) bD534 rfl rfl qaD5 (fun _ _ _ h => h) (Or.inr ⟨by rfl, rfl⟩) ?_ ?_
                 rotate_left
                 · exact qsD50
                 refine pure_ (i := 12) (N := some 48) (v := undef) (a' := ?_) bD535 rfl rfl qaD5 (fun _ _ _ h => h) (Or.inr ⟨by rfl, rfl⟩) ?_ ?_
                 rotate_left
                 · exact qsD50
                 refine pure_ (i := 13) (N := some 49) (v := undef) (a' := ?_) bD536 rfl rfl qaD5 (fun _ _ _ h => h) (Or.inr ⟨by rfl, rfl⟩) ?_ ?_
                 rotate_left
                 · exact qsD50
                 refine pure_ (i := 14) (N := some 50) (v := undef) (a' := ?_) bD537 rfl rfl qaD5 (fun _ _ _ h => h) (Or.inr ⟨by rfl, rfl⟩) ?_ ?_
                 rotate_left
                 · exact qsD50
                 refine pure_ (i := 15) (N := some 51) (v := undef) (a' := ?_) bD538 rfl rfl qaD5 (fun _ _ _ h => h) (Or.inr ⟨by rfl, rfl⟩) ?_ ?_
                 rotate_left
                 · exact qsD50
                 refine pure_ (i := 16) (N := some 52) (v := undef) (a' := ?_) bD539 rfl rfl qaD5 (fun _ _ _ h => h) (Or.inr ⟨by rfl, rfl⟩) ?_ ?_
                 rotate_left
                 · exact qsD50
                 refine pure_ (i := 17) (N := some 53) (v := undef) (a' := ?_) bD540 rfl rfl qaD5 (fun _ _ _ h => h) (Or.inr ⟨by rfl, rfl⟩) ?_ ?_
                 rotate_left
                 · exact qsD50
                 refine pure_ (i := 18) (N := some 54) (v := ?_) (a' := ?_) bD541 rfl rfl qaD5 (fun _ _ _ h => h) (Or.inl ⟨by rfl, ?_⟩) ?_ ?_
                 rotate_left
                 · intro w'
                   go_simp
                   with_reducible rfl
                 rotate_left
                 · exact qsD50
                 refine pure_ (i := 19) (N := some 55) (v := ?_) (a' := ?_) bD542 rfl rfl qaD5 (fun _ _ _ h => h) (Or.inl ⟨by rfl, ?_⟩) ?_ ?_
                 rotate_left
                 · intro w'
                   go_simp
                   with_reducible rfl
                 rotate_left
                 · exact qsD50
                 refine pure_ (i := 20) (N := some 56) (v := undef) (a' := ?_) bD543 rfl rfl qaD5 (fun _ _ _ h => h) (Or.inr ⟨by rfl, rfl⟩) ?_ ?_
                 rotate_left
                 · exact qsD50
                 refine pure_ (i := 21) (N := some 57) (v := undef) (a' := ?_) bD544 rfl rfl qaD5 (fun _ _ _ h => h) (Or.inr ⟨by rfl, rfl⟩) ?_ ?_
                 rotate_left
                 · exact qsD50
                 refine pure_ (i := 22) (N := some 58) (v := undef) (a' := ?_) bD545 rfl rfl qaD5 (fun _ _ _ h => h) (Or.inr ⟨by rfl, rfl⟩) ?_ ?_
                 rotate_left
                 · exact qsD50
                 refine pure_ (i := 23) (N := some 59) (v := undef) (a' := ?_) bD546 rfl rfl qaD5 (fun _ _ _ h => h) (Or.inr ⟨by rfl, rfl⟩) ?_ ?_
                 rotate_left
                 · exact qsD50
                 refine pure_ (i := 24) (N := some 60) (v := undef) (a' := ?_) bD547 rfl rfl qaD5 (fun _ _ _ h => h) (Or.inr ⟨by rfl, rfl⟩) ?_ ?_
                 rotate_left
                 · exact qsD50
                 refine pure_ (i := 25) (N := some 61) (v := undef) (a' := ?_) bD548 rfl rfl qaD5 (fun _ _ _ h => h) (Or.inr ⟨by rfl, rfl⟩) ?_ ?_
                 rotate_left
                 · exact qsD50
                 refine pure_ (i := 26) (N := some 62) (v := ?_) (a' := ?_) bD549 rfl rfl qaD5 (fun _ _ _ h => h) (Or.inl ⟨by rfl, ?_⟩) ?_ ?_
                 rotate_left
                 · intro w'
                   go_simp
                   with_reducible rfl
                 rotate_left
                 · exact qsD50
                 refine done_ (done_of HT_.out (by kernel_rfl)) ?_
                 try go_wp2
                 go_ret
                 exact ⟨qD54, qD50⟩
               · rw [if_neg c20] at H
                 have c20b0 : decide ((l0.length : Int) < (rd l1_3 x31_2)) = false := decide_eq_false c20; clear c20; obtain ⟨ji22, hji22⟩ : ∃ j_ : Int, (wrap64 ((rd l1_3 x31_2) - 1)) = j_ := ⟨_, rfl⟩
                 replace H : (if 0 ≤ (ji22) then (if (ji22) < (l0.length : Int) then (if ((rd_T43 l0 (ji22)).f1).toList = a1_1.toList then (if x31_2 ≤ (l1_3.length : Int) then ((slices_Contains_int_int.f k2 (l1_3.take (x31_2 : Int).toNat) (rd l1_3 x31_2)).bind fun t123 => (if t123 = true then (some false) else (dag_right.l0 k2 l0 l1_3 (l1_3.length : Int) (wrap64 (x31_2 + 1)) a1_0 a1_1 a1_2 l1_3))) else (none)) else (some false)) else (none)) else (none)) = some r := by first | (rw [hji22] at H; exact H) | (simp only [hji22] at H ⊢; exact H)
                 have hji22w : (IntKind.i64.wrap ((rd l1_3 x31_2) - 1)) = ji22 := (i64_w _).trans hji22
                 by_cases c23 : 0 ≤ (ji22)
                 · rw [if_pos c23] at H
                   have c23b0 : decide (0 ≤ (ji22)) = true := decide_eq_true c23; clear c23
                   by_cases c24 : (ji22) < (l0.length : Int)
                   · rw [if_pos c24] at H
                     have c24b0 : decide ((ji22) < (l0.length : Int)) = true := decide_eq_true c24; clear c24
                     by_cases c25 : ((rd_T43 l0 (ji22)).f1).toList = a1_1.toList
                     · rw [if_pos c25] at H
                       have c25b0 : (((rd_T43 l0 (ji22)).f1).toList == a1_1.toList) = true := beq_iff_eq.mpr c25; have c25b1 : (((rd_T43 l0 (ji22)).f1).toList != a1_1.toList) = false := bne_eq_false_iff_eq.mpr c25; clear c25; have c26b0 := eq_true (of_decide_eq_true qD51 : 0 ≤ x31_2)
                       by_cases c27 : x31_2 ≤ (l1_3.length : Int)
                       · rw [if_pos c27] at H
                         have c27b0 := eq_true c27; have c27b1 : decide (x31_2 ≤ (l1_3.length : Int)) = true := decide_eq_true c27; clear c27; replace H := Option.bind_eq_some_iff.mp H; obtain ⟨t123, A280, H⟩ := H
                         replace H : (if t123 = true then (some false) else (dag_right.l0 k2 l0 l1_3 (l1_3.length : Int) (wrap64 (x31_2 + 1)) a1_0 a1_1 a1_2 l1_3)) = some r := H
                         have A28 := Aside0.mk A280; clear A280
                         by_cases c29 : t123 = true
                         · subst c29
                           have H1 : (some false) = some r := by rw [if_pos rfl] at H; exact H
                           clear H; have H := H1; clear H1; obtain rfl := Option.some.inj H; have p120 : 0 ≤ (x31_2 : Int) := of_decide_eq_true qD51; have q120 : x31_2 < (l1_3.length : Int) := of_decide_eq_true qD51; obtain ⟨ad120, e120, hx120_0⟩ := Kd.at_int HR1_3.out x31_2 p120 q120; cases e120; replace hx120_0 := (HB.out.cell (World.block_lt_of_cell? w _ hx120_0)).trans hx120_0; replace p120 := eq_true p120; replace q120 := eq_true q120
                           try go_wp2
                           have n0_ := Aside0.mk (blk_drew BK117.out); have n1_ := Aside0.mk (below_drew1 HB.out); clear BK117; clear HB; have BK117 := n0_; have HB := n1_; clear n0_ n1_; have p121 : 0 ≤ ((ji22) : Int) := of_decide_eq_true qD51; have q121 : (ji22) < (l0.length : Int) := of_decide_eq_true qD51; obtain ⟨ad121, A121_3, c121_3, e121, hx121_0, hx121_1, hx121_2, hx121_3, hl121_3, hi121_3⟩ := at_T43 HR0.out (ji22) p121 q121; have hw121_3 := hx121_3; have hw121_2 := hx121_2; have hw121_1 := hx121_1; have hw121_0 := hx121_0; cases e121; replace hx121_0 := (HB.out.cell (World.block_lt_of_cell? w _ hx121_0)).trans hx121_0; replace hx121_1 := (HB.out.cell (World.block_lt_of_cell? w _ hx121_1)).trans hx121_1; replace hx121_2 := (HB.out.cell (World.block_lt_of_cell? w _ hx121_2)).trans hx121_2; replace hx121_3 := (HB.out.cell (World.block_lt_of_cell? w _ hx121_3)).trans hx121_3; have HR121_3 := Aside0.mk hi121_3; have HC121_3 := Aside0.mk hl121_3; clear hi121_3 hl121_3; replace p121 := eq_true p121; replace q121 := eq_true q121; obtain ⟨i031, hi031, _, hsz31, _⟩ := info_parts info3; obtain ⟨hcut31, hA31, hC31⟩ := print_take_of (P := Tryd.prog) (Value.int .i64) 0 29 3 .i64 Tryd.underlying29 hi031 hsz31 (some ad120) c1_3 l1_3 x31_2 (of_decide_eq_true qD51) (of_decide_eq_true qD51) HC1_3.out
                           have HR122 := Aside0.mk (Kd.C_of_reads (h1 := fun _ => rfl) (hA31 _ (Kd.reads_of_C HR1_3.out)))
                           have HC122 := Aside0.mk hC31; clear hA31 hC31 hi031 hsz31
                           refine start_ (n := 27) (S := fun w' => w'.cell? ⟨gb117, 0, none⟩ = some (.int .i64 a1_0) ∧ w'.cell? ⟨gb117, 1, none⟩ = some (.string a1_1) ∧ w'.cell? ⟨gb117, 2, none⟩ = some (.int .i64 a1_2) ∧ w'.cell? ⟨gb117, 3, none⟩ = some (.slice (some ad120) l1_3.length c1_3) ∧ w'.cell? (ad121.add (((ji22)).toNat * 4)) = some (.int .i64 ((rd_T43 l0 (ji22)).f0)) ∧ w'.cell? ⟨(ad121.add (((ji22)).toNat * 4)).block, (ad121.add (((ji22)).toNat * 4)).off + 1, none⟩ = some (.string ((rd_T43 l0 (ji22)).f1)) ∧ w'.cell? ⟨(ad121.add (((ji22)).toNat * 4)).block, (ad121.add (((ji22)).toNat * 4)).off + 2, none⟩ = some (.int .i64 ((rd_T43 l0 (ji22)).f2)) ∧ w'.cell? ⟨(ad121.add (((ji22)).toNat * 4)).block, (ad121.add (((ji22)).toNat * 4)).off + 3, none⟩ = some (.slice A121_3 ((rd_T43 l0 (ji22)).f3).length c121_3)) (ds := []) bD522 (by kernel_rfl) rfl rfl ⟨(blk_cell BK117.out 0).trans rfl, (blk_cell BK117.out 1).trans rfl, (blk_cell BK117.out 2).trans rfl, (blk_cell BK117.out 3).trans rfl, ((HB.out.cell (World.block_lt_of_cell? w _ hw121_0)).trans hw121_0), ((HB.out.cell (World.block_lt_of_cell? w _ hw121_1)).trans hw121_1), ((HB.out.cell (World.block_lt_of_cell? w _ hw121_2)).trans hw121_2), ((HB.out.cell (World.block_lt_of_cell? w _ hw121_3)).trans hw121_3)⟩ (fun hHeld => ?_); refine with_tabW dag_right.tab6 dag_right.bits6 (fun HT_ HW_ => ?_)
                           generalize wr.drew = w30 at BK117 HB HR121_3 HR122 hx121_0 hx121_1 hx121_2 hx121_3 hHeld ⊢
                           refine pure_ (i := 0) (N := some 36) (v := ?_) (a' := ?_) bD523 rfl rfl qaD5 (fun _ _ _ h => h) (Or.inl ⟨by rfl, ?_⟩) ?_ ?_
                           rotate_left
                           · intro w'
                             go_simp
                             with_reducible rfl
                           rotate_left
                           · exact qsD50
                           refine pure_ (i := 1) (N := some 37) (v := ?_) (a' := ?_) bD524 rfl rfl qaD5 (fun _ _ _ h => h) (Or.inl ⟨by rfl, ?_⟩) ?_ ?_
                           rotate_left
                           · intro w'
                             go_simp
                             with_reducible rfl
                           rotate_left
                           · exact qsD50
                           refine pure_ (i := 2) (N := some 38) (v := ?_) (a' := ?_) bD525 rfl rfl qaD5 (fun _ _ _ h => h) (Or.inl ⟨by rfl, ?_⟩) ?_ ?_
                           rotate_left
                           · intro w'
                             go_simp
                             with_reducible rfl
                           rotate_left
                           · exact qsD50
                           refine pure_ (i := 3) (N := some 39) (v := ?_) (a' := ?_) bD526 rfl rfl qaD5 (fun _ _ _ h => h) (Or.inl ⟨by rfl, ?_⟩) ?_ ?_
                           rotate_left
                           · intro w'
                             go_simp
                             with_reducible rfl
                           rotate_left
                           · exact qsD50
                           refine pure_ (i := 4) (N := some 40) (v := ?_) (a' := ?_) bD527 rfl rfl qaD5 (fun _ _ _ h => h) (Or.inl ⟨by rfl, ?_⟩) ?_ ?_
                           rotate_left
                           · intro w'
                             go_simp
                             with_reducible rfl
                           rotate_left
                           · exact qsD50
                           refine pure_ (i := 5) (N := some 41) (v := ?_) (a' := ?_) bD528 rfl rfl qaD5 (fun _ _ _ h => h) (Or.inl ⟨by rfl, ?_⟩) ?_ ?_
                           rotate_left
                           · intro w'
                             go_simp
                             with_reducible rfl
                           rotate_left
                           · exact qsD50
                           refine pure_ (i := 6) (N := some 42) (v := ?_) (a' := ?_) bD529 rfl rfl qaD5 (fun _ _ _ h => h) (Or.inl ⟨by rfl, ?_⟩) ?_ ?_
                           rotate_left
                           · intro w'
                             go_simp
                             with_reducible rfl
                           rotate_left
                           · exact qsD50
                           refine pure_ (i := 7) (N := some 43) (v := ?_) (a' := ?_) bD530 rfl rfl qaD5 (fun _ _ _ h => h) (Or.inl ⟨by rfl, ?_⟩) ?_ ?_
                           rotate_left
                           · intro w'
                             go_simp
                             with_reducible rfl
                           rotate_left
                           · exact qsD50
                           refine pure_ (i := 8) (N := some 44) (v := ?_) (a' := ?_) bD531 rfl rfl qaD5 (fun _ _ _ h => h) (Or.inl ⟨by rfl, ?_⟩) ?_ ?_
                           rotate_left
                           · intro w'
                             go_simp
                             with_reducible rfl
                           rotate_left
                           · exact qsD50
                           refine pure_ (i := 9) (N := some 45) (v := ?_) (a' := ?_) bD532 rfl rfl qaD5 (fun _ _ _ h => h) (Or.inl ⟨by rfl, ?_⟩) ?_ ?_
                           rotate_left
                           · intro w'
                             go_simp
                             with_reducible rfl
                           rotate_left
                           · exact qsD50
                           refine pure_ (i := 10) (N := some 46) (v := ?_) (a' := ?_) bD533 rfl rfl qaD5 (fun _ _ _ h => h) (Or.inl ⟨by rfl, ?_⟩) ?_ ?_
                           rotate_left
                           · intro w'
                             go_simp
                             with_reducible rfl
                           rotate_left
                           · exact qsD50
                           refine pure_ (i := 11) (N := some 47) (v := ?_) (a' := ?_) bD534 rfl rfl qaD5 (fun _ _ _ h => h) (Or.inl ⟨by rfl, ?_⟩) ?_ ?_
                           rotate_left
                           · intro w'
                             go_simp
                             with_reducible rfl
                           rotate_left
                           · exact qsD50
                           refine pure_ (i := 12) (N := some 48) (v := ?_) (a' := ?_) bD535 rfl rfl qaD5 (fun _ _ _ h => h) (Or.inl ⟨by rfl, ?_⟩) ?_ ?_
                           rotate_left
                           · intro w'
                             go_simp
                             with_reducible rfl
                           rotate_left
                           · exact qsD50
                           refine pure_ (i := 13) (N := some 49) (v := ?_) (a' := ?_) bD536 rfl rfl qaD5 (fun _ _ _ h => h) (Or.inl ⟨by rfl, ?_⟩) ?_ ?_
                           rotate_left
                           · intro w'
                             go_simp
                             with_reducible rfl
                           rotate_left
                           · exact qsD50
                           refine pure_ (i := 15) (N := some 51) (v := ?_) (a' := ?_) bD550 rfl rfl qaD5 (fun _ _ _ h => h) (Or.inl ⟨by rfl, ?_⟩) ?_ ?_
                           rotate_left
                           · intro w'
                             go_simp
                             with_reducible rfl
                           rotate_left
                           · exact qsD50
                           refine take_ (i := 14) (N := some 50) (v := ?_) (a' := ?_) bD538 rfl rfl qtD5 (fun _ _ _ h => h) (Or.inl ⟨by rfl, ?_⟩) hHeld ?_ ?_
                           rotate_left
                           · rintro w' ⟨s0, s1, s2, s3, s4, s5, s6, s7⟩
                             go_simp
                             with_reducible rfl
                           rotate_left
                           · exact qsD50
                           refine take_ (i := 16) (N := some 52) (v := ?_) (a' := ?_) bD539 rfl rfl qtD5 (fun _ _ _ h => h) (Or.inl ⟨by rfl, ?_⟩) hHeld ?_ ?_
                           rotate_left
                           · rintro w' ⟨s0, s1, s2, s3, s4, s5, s6, s7⟩
                             go_simp
                             with_reducible rfl
                           rotate_left
                           · exact qsD50
                           refine pure_ (i := 17) (N := some 53) (v := ?_) (a' := ?_) bD540 rfl rfl qaD5 (fun _ _ _ h => h) (Or.inl ⟨by rfl, ?_⟩) ?_ ?_
                           rotate_left
                           · intro w'
                             go_simp
                             with_reducible rfl
                           rotate_left
                           · exact qsD50
                           refine pure_ (i := 18) (N := some 54) (v := ?_) (a' := ?_) bD541 rfl rfl qaD5 (fun _ _ _ h => h) (Or.inl ⟨by rfl, ?_⟩) ?_ ?_
                           rotate_left
                           · intro w'
                             go_simp
                             with_reducible rfl
                           rotate_left
                           · exact qsD50
                           refine pure_ (i := 19) (N := some 55) (v := ?_) (a' := ?_) bD542 rfl rfl qaD5 (fun _ _ _ h => h) (Or.inl ⟨by rfl, ?_⟩) ?_ ?_
                           rotate_left
                           · intro w'
                             go_simp
                             with_reducible rfl
                           rotate_left
                           · exact qsD50
                           refine pure_ (i := 20) (N := some 56) (v := ?_) (a' := ?_) bD543 rfl rfl qaD5 (fun _ _ _ h => h) (Or.inl ⟨by rfl, ?_⟩) ?_ ?_
                           rotate_left
                           · intro w'
                             go_simp
                             with_reducible rfl
                           rotate_left
                           · exact qsD50
                           refine pure_ (i := 22) (N := some 58) (v := ?_) (a' := ?_) bD551 rfl rfl qaD5 (fun _ _ _ h => h) (Or.inl ⟨by rfl, ?_⟩) ?_ ?_
                           rotate_left
                           · intro w'
                             go_simp
                             with_reducible rfl
                           rotate_left
                           · exact qsD50
                           refine pure_ (i := 24) (N := some 60) (v := ?_) (a' := ?_) bD552 rfl rfl qaD5 (fun _ _ _ h => h) (Or.inl ⟨by rfl, ?_⟩) ?_ ?_
                           rotate_left
                           · intro w'
                             go_simp
                             with_reducible rfl
                           rotate_left
                           · exact qsD50
                           refine take_ (i := 21) (N := some 57) (v := ?_) (a' := ?_) bD553 rfl rfl qtD5 (fun _ _ _ h => h) (Or.inl ⟨by rfl, ?_⟩) hHeld ?_ ?_
                           rotate_left
                           · rintro w' ⟨s0, s1, s2, s3, s4, s5, s6, s7⟩
                             go_simp
                             with_reducible rfl
                           rotate_left
                           · exact qsD50
                           refine pure_ (i := 23) (N := some 59) (v := ?_) (a' := ?_) bD547 rfl rfl qaD5 (fun _ _ _ h => h) (Or.inl ⟨by rfl, ?_⟩) ?_ ?_
                           rotate_left
                           · intro w'
                             go_simp
                             with_reducible rfl
                           rotate_left
                           · exact qsD50
                           refine one_ (i := 25) (N := some 61) bD548 rfl rfl (one_of HT_.out (by kernel_rfl)) (by decide) (fun K hK => ?_)
                           refine goes_ Tryd.func30 (by kernel_rfl) rfl #[.slice (some ad120) (l1_3.take (x31_2 : Int).toNat).length c1_3, .int .i64 (rd l1_3 x31_2)] (by rfl) rfl rfl qD58 ?_
                           with_reducible refine (slices_Contains_int_int.calls k2 _ _ (l1_3.take (x31_2 : Int).toNat) (rd l1_3 x31_2) true _ ?side1 ?side2 A28.out ?side3).mono ?_
                           (case side1 => exact qD55)
                           (case side2 => exact HC122.out)
                           (case side3 => exact qD59)
                           rintro e w' ⟨rfl, ⟨nd, rfl⟩⟩
                           refine ⟨_, rfl, ?_⟩
                           refine hK.out _ _ ⟨(blk_cell BK117.out 0).trans rfl, (blk_cell BK117.out 1).trans rfl, (blk_cell BK117.out 2).trans rfl, (blk_cell BK117.out 3).trans rfl, ((HB.out.cell (World.block_lt_of_cell? w _ hw121_0)).trans hw121_0), ((HB.out.cell (World.block_lt_of_cell? w _ hw121_1)).trans hw121_1), ((HB.out.cell (World.block_lt_of_cell? w _ hw121_2)).trans hw121_2), ((HB.out.cell (World.block_lt_of_cell? w _ hw121_3)).trans hw121_3)⟩ (fun hHeld => ?_)
                           clear hK K
                           refine norm_ (a' := ?_) ?_ ?_
                           rotate_left
                           · show Act.put _ (some 61) _ = _
                             simp only [Act.put, List.setIfInBounds_toArray, List.set_cons_zero, List.set_cons_succ, i64_w, i32_w]
                             rfl
                           refine pure_ (i := 26) (N := some 62) (v := ?_) (a' := ?_) bD549 rfl rfl qaD5 (fun _ _ _ h => h) (Or.inl ⟨by rfl, ?_⟩) ?_ ?_
                           rotate_left
                           · intro w'
                             go_simp
                             with_reducible rfl
                           rotate_left
                           · exact qsD50
                           refine done_ (done_of HT_.out (by kernel_rfl)) ?_
                           try go_wp2
                           go_ret
                           exact ⟨qD56, qD50⟩
                         · replace c29 := Bool.eq_false_iff.mpr c29
                           subst c29
                           have H1 : (dag_right.l0 k2 l0 l1_3 (l1_3.length : Int) (wrap64 (x31_2 + 1)) a1_0 a1_1 a1_2 l1_3) = some r := by rw [if_neg (show ¬ (false = true) by decide)] at H; exact H
                           clear H; have H := H1; clear H1; have H' := Aside0.mk H; clear H; have p120 : 0 ≤ (x31_2 : Int) := of_decide_eq_true qD51; have q120 : x31_2 < (l1_3.length : Int) := of_decide_eq_true qD51; obtain ⟨ad120, e120, hx120_0⟩ := Kd.at_int HR1_3.out x31_2 p120 q120; cases e120; replace hx120_0 := (HB.out.cell (World.block_lt_of_cell? w _ hx120_0)).trans hx120_0; replace p120 := eq_true p120; replace q120 := eq_true q120
                           try go_wp2
                           have n0_ := Aside0.mk (blk_drew BK117.out); have n1_ := Aside0.mk (below_drew1 HB.out); clear BK117; clear HB; have BK117 := n0_; have HB := n1_; clear n0_ n1_; have p121 : 0 ≤ ((ji22) : Int) := of_decide_eq_true qD51; have q121 : (ji22) < (l0.length : Int) := of_decide_eq_true qD51; obtain ⟨ad121, A121_3, c121_3, e121, hx121_0, hx121_1, hx121_2, hx121_3, hl121_3, hi121_3⟩ := at_T43 HR0.out (ji22) p121 q121; have hw121_3 := hx121_3; have hw121_2 := hx121_2; have hw121_1 := hx121_1; have hw121_0 := hx121_0; cases e121; replace hx121_0 := (HB.out.cell (World.block_lt_of_cell? w _ hx121_0)).trans hx121_0; replace hx121_1 := (HB.out.cell (World.block_lt_of_cell? w _ hx121_1)).trans hx121_1; replace hx121_2 := (HB.out.cell (World.block_lt_of_cell? w _ hx121_2)).trans hx121_2; replace hx121_3 := (HB.out.cell (World.block_lt_of_cell? w _ hx121_3)).trans hx121_3; have HR121_3 := Aside0.mk hi121_3; have HC121_3 := Aside0.mk hl121_3; clear hi121_3 hl121_3; replace p121 := eq_true p121; replace q121 := eq_true q121; obtain ⟨i033, hi033, _, hsz33, _⟩ := info_parts info3; obtain ⟨hcut33, hA33, hC33⟩ := print_take_of (P := Tryd.prog) (Value.int .i64) 0 29 3 .i64 Tryd.underlying29 hi033 hsz33 (some ad120) c1_3 l1_3 x31_2 (of_decide_eq_true qD51) (of_decide_eq_true qD51) HC1_3.out
                           have HR122 := Aside0.mk (Kd.C_of_reads (h1 := fun _ => rfl) (hA33 _ (Kd.reads_of_C HR1_3.out)))
                           have HC122 := Aside0.mk hC33; clear hA33 hC33 hi033 hsz33
                           refine start_ (n := 27) (S := fun w' => w'.cell? ⟨gb117, 0, none⟩ = some (.int .i64 a1_0) ∧ w'.cell? ⟨gb117, 1, none⟩ = some (.string a1_1) ∧ w'.cell? ⟨gb117, 2, none⟩ = some (.int .i64 a1_2) ∧ w'.cell? ⟨gb117, 3, none⟩ = some (.slice (some ad120) l1_3.length c1_3) ∧ w'.cell? (ad121.add (((ji22)).toNat * 4)) = some (.int .i64 ((rd_T43 l0 (ji22)).f0)) ∧ w'.cell? ⟨(ad121.add (((ji22)).toNat * 4)).block, (ad121.add (((ji22)).toNat * 4)).off + 1, none⟩ = some (.string ((rd_T43 l0 (ji22)).f1)) ∧ w'.cell? ⟨(ad121.add (((ji22)).toNat * 4)).block, (ad121.add (((ji22)).toNat * 4)).off + 2, none⟩ = some (.int .i64 ((rd_T43 l0 (ji22)).f2)) ∧ w'.cell? ⟨(ad121.add (((ji22)).toNat * 4)).block, (ad121.add (((ji22)).toNat * 4)).off + 3, none⟩ = some (.slice A121_3 ((rd_T43 l0 (ji22)).f3).length c121_3)) (ds := []) bD522 (by kernel_rfl) rfl rfl ⟨(blk_cell BK117.out 0).trans rfl, (blk_cell BK117.out 1).trans rfl, (blk_cell BK117.out 2).trans rfl, (blk_cell BK117.out 3).trans rfl, ((HB.out.cell (World.block_lt_of_cell? w _ hw121_0)).trans hw121_0), ((HB.out.cell (World.block_lt_of_cell? w _ hw121_1)).trans hw121_1), ((HB.out.cell (World.block_lt_of_cell? w _ hw121_2)).trans hw121_2), ((HB.out.cell (World.block_lt_of_cell? w _ hw121_3)).trans hw121_3)⟩ (fun hHeld => ?_); refine with_tabW dag_right.tab6 dag_right.bits6 (fun HT_ HW_ => ?_)
                           generalize wr.drew = w32 at BK117 HB HR121_3 HR122 hx121_0 hx121_1 hx121_2 hx121_3 hHeld ⊢
                           refine pure_ (i := 0) (N := some 36) (v := ?_) (a' := ?_) bD523 rfl rfl qaD5 (fun _ _ _ h => h) (Or.inl ⟨by rfl, ?_⟩) ?_ ?_
                           rotate_left
                           · intro w'
                             go_simp
                             with_reducible rfl
                           rotate_left
                           · exact qsD50
                           refine pure_ (i := 1) (N := some 37) (v := ?_) (a' := ?_) bD524 rfl rfl qaD5 (fun _ _ _ h => h) (Or.inl ⟨by rfl, ?_⟩) ?_ ?_
                           rotate_left
                           · intro w'
                             go_simp
                             with_reducible rfl
                           rotate_left
                           · exact qsD50
                           refine pure_ (i := 2) (N := some 38) (v := ?_) (a' := ?_) bD525 rfl rfl qaD5 (fun _ _ _ h => h) (Or.inl ⟨by rfl, ?_⟩) ?_ ?_
                           rotate_left
                           · intro w'
                             go_simp
                             with_reducible rfl
                           rotate_left
                           · exact qsD50
                           refine pure_ (i := 3) (N := some 39) (v := ?_) (a' := ?_) bD526 rfl rfl qaD5 (fun _ _ _ h => h) (Or.inl ⟨by rfl, ?_⟩) ?_ ?_
                           rotate_left
                           · intro w'
                             go_simp
                             with_reducible rfl
                           rotate_left
                           · exact qsD50
                           refine pure_ (i := 4) (N := some 40) (v := ?_) (a' := ?_) bD527 rfl rfl qaD5 (fun _ _ _ h => h) (Or.inl ⟨by rfl, ?_⟩) ?_ ?_
                           rotate_left
                           · intro w'
                             go_simp
                             with_reducible rfl
                           rotate_left
                           · exact qsD50
                           refine pure_ (i := 5) (N := some 41) (v := ?_) (a' := ?_) bD528 rfl rfl qaD5 (fun _ _ _ h => h) (Or.inl ⟨by rfl, ?_⟩) ?_ ?_
                           rotate_left
                           · intro w'
                             go_simp
                             with_reducible rfl
                           rotate_left
                           · exact qsD50
                           refine pure_ (i := 6) (N := some 42) (v := ?_) (a' := ?_) bD529 rfl rfl qaD5 (fun _ _ _ h => h) (Or.inl ⟨by rfl, ?_⟩) ?_ ?_
                           rotate_left
                           · intro w'
                             go_simp
                             with_reducible rfl
                           rotate_left
                           · exact qsD50
                           refine pure_ (i := 7) (N := some 43) (v := ?_) (a' := ?_) bD530 rfl rfl qaD5 (fun _ _ _ h => h) (Or.inl ⟨by rfl, ?_⟩) ?_ ?_
                           rotate_left
                           · intro w'
                             go_simp
                             with_reducible rfl
                           rotate_left
                           · exact qsD50
                           refine pure_ (i := 8) (N := some 44) (v := ?_) (a' := ?_) bD531 rfl rfl qaD5 (fun _ _ _ h => h) (Or.inl ⟨by rfl, ?_⟩) ?_ ?_
                           rotate_left
                           · intro w'
                             go_simp
                             with_reducible rfl
                           rotate_left
                           · exact qsD50
                           refine pure_ (i := 9) (N := some 45) (v := ?_) (a' := ?_) bD532 rfl rfl qaD5 (fun _ _ _ h => h) (Or.inl ⟨by rfl, ?_⟩) ?_ ?_
                           rotate_left
                           · intro w'
                             go_simp
                             with_reducible rfl
                           rotate_left
                           · exact qsD50
                           refine pure_ (i := 10) (N := some 46) (v := ?_) (a' := ?_) bD533 rfl rfl qaD5 (fun _ _ _ h => h) (Or.inl ⟨by rfl, ?_⟩) ?_ ?_
                           rotate_left
                           · intro w'
                             go_simp
                             with_reducible rfl
                           rotate_left
                           · exact qsD50
                           refine pure_ (i := 11) (N := some 47) (v := ?_) (a' := ?_) bD534 rfl rfl qaD5 (fun _ _ _ h => h) (Or.inl ⟨by rfl, ?_⟩) ?_ ?_
                           rotate_left
                           · intro w'
                             go_simp
                             with_reducible rfl
                           rotate_left
                           · exact qsD50
                           refine pure_ (i := 12) (N := some 48) (v := ?_) (a' := ?_) bD535 rfl rfl qaD5 (fun _ _ _ h => h) (Or.inl ⟨by rfl, ?_⟩) ?_ ?_
                           rotate_left
                           · intro w'
                             go_simp
                             with_reducible rfl
                           rotate_left
                           · exact qsD50
                           refine pure_ (i := 13) (N := some 49) (v := ?_) (a' := ?_) bD536 rfl rfl qaD5 (fun _ _ _ h => h) (Or.inl ⟨by rfl, ?_⟩) ?_ ?_
                           rotate_left
                           · intro w'
                             go_simp
                             with_reducible rfl
                           rotate_left
                           · exact qsD50
                           refine pure_ (i := 15) (N := some 51) (v := ?_) (a' := ?_) bD550 rfl rfl qaD5 (fun _ _ _ h => h) (Or.inl ⟨by rfl, ?_⟩) ?_ ?_
                           rotate_left
                           · intro w'
                             go_simp
                             with_reducible rfl
                           rotate_left
                           · exact qsD50
                           refine take_ (i := 14) (N := some 50) (v := ?_) (a' := ?_) bD538 rfl rfl qtD5 (fun _ _ _ h => h) (Or.inl ⟨by rfl, ?_⟩) hHeld ?_ ?_
                           rotate_left
                           · rintro w' ⟨s0, s1, s2, s3, s4, s5, s6, s7⟩
                             go_simp
                             with_reducible rfl
                           rotate_left
                           · exact qsD50
                           refine take_ (i := 16) (N := some 52) (v := ?_) (a' := ?_) bD539 rfl rfl qtD5 (fun _ _ _ h => h) (Or.inl ⟨by rfl, ?_⟩) hHeld ?_ ?_
                           rotate_left
                           · rintro w' ⟨s0, s1, s2, s3, s4, s5, s6, s7⟩
                             go_simp
                             with_reducible rfl
                           rotate_left
                           · exact qsD50
                           refine pure_ (i := 17) (N := some 53) (v := ?_) (a' := ?_) bD540 rfl rfl qaD5 (fun _ _ _ h => h) (Or.inl ⟨by rfl, ?_⟩) ?_ ?_
                           rotate_left
                           · intro w'
                             go_simp
                             with_reducible rfl
                           rotate_left
                           · exact qsD50
                           refine pure_ (i := 18) (N := some 54) (v := ?_) (a' := ?_) bD541 rfl rfl qaD5 (fun _ _ _ h => h) (Or.inl ⟨by rfl, ?_⟩) ?_ ?_
                           rotate_left
                           · intro w'
                             go_simp
                             with_reducible rfl
                           rotate_left
                           · exact qsD50
                           refine pure_ (i := 19) (N := some 55) (v := ?_) (a' := ?_) bD542 rfl rfl qaD5 (fun _ _ _ h => h) (Or.inl ⟨by rfl, ?_⟩) ?_ ?_
                           rotate_left
                           · intro w'
                             go_simp
                             with_reducible rfl
                           rotate_left
                           · exact qsD50
                           refine pure_ (i := 20) (N := some 56) (v := ?_) (a' := ?_) bD543 rfl rfl qaD5 (fun _ _ _ h => h) (Or.inl ⟨by rfl, ?_⟩) ?_ ?_
                           rotate_left
                           · intro w'
                             go_simp
                             with_reducible rfl
                           rotate_left
                           · exact qsD50
                           refine pure_ (i := 22) (N := some 58) (v := ?_) (a' := ?_) bD551 rfl rfl qaD5 (fun _ _ _ h => h) (Or.inl ⟨by rfl, ?_⟩) ?_ ?_
                           rotate_left
                           · intro w'
                             go_simp
                             with_reducible rfl
                           rotate_left
                           · exact qsD50
                           refine pure_ (i := 24) (N := some 60) (v := ?_) (a' := ?_) bD552 rfl rfl qaD5 (fun _ _ _ h => h) (Or.inl ⟨by rfl, ?_⟩) ?_ ?_
                           rotate_left
                           · intro w'
                             go_simp
                             with_reducible rfl
                           rotate_left
                           · exact qsD50
                           refine take_ (i := 21) (N := some 57) (v := ?_) (a' := ?_) bD553 rfl rfl qtD5 (fun _ _ _ h => h) (Or.inl ⟨by rfl, ?_⟩) hHeld ?_ ?_
                           rotate_left
                           · rintro w' ⟨s0, s1, s2, s3, s4, s5, s6, s7⟩
                             go_simp
                             with_reducible rfl
                           rotate_left
                           · exact qsD50
                           refine pure_ (i := 23) (N := some 59) (v := ?_) (a' := ?_) bD547 rfl rfl qaD5 (fun _ _ _ h => h) (Or.inl ⟨by rfl, ?_⟩) ?_ ?_
                           rotate_left
                           · intro w'
                             go_simp
                             with_reducible rfl
                           rotate_left
                           · exact qsD50
                           refine one_ (i := 25) (N := some 61) bD548 rfl rfl (one_of HT_.out (by kernel_rfl)) (by decide) (fun K hK => ?_)
                           refine goes_ Tryd.func30 (by kernel_rfl) rfl #[.slice (some ad120) (l1_3.take (x31_2 : Int).toNat).length c1_3, .int .i64 (rd l1_3 x31_2)] (by rfl) rfl rfl qD58 ?_
                           with_reducible refine (slices_Contains_int_int.calls k2 _ _ (l1_3.take (x31_2 : Int).toNat) (rd l1_3 x31_2) false _ ?side1 ?side2 A28.out ?side3).mono ?_
                           (case side1 => exact qD55)
                           (case side2 => exact HC122.out)
                           (case side3 => exact qD59)
                           rintro e w' ⟨rfl, ⟨nd, rfl⟩⟩
                           refine ⟨_, rfl, ?_⟩
                           refine hK.out _ _ ⟨(blk_cell BK117.out 0).trans rfl, (blk_cell BK117.out 1).trans rfl, (blk_cell BK117.out 2).trans rfl, (blk_cell BK117.out 3).trans rfl, ((HB.out.cell (World.block_lt_of_cell? w _ hw121_0)).trans hw121_0), ((HB.out.cell (World.block_lt_of_cell? w _ hw121_1)).trans hw121_1), ((HB.out.cell (World.block_lt_of_cell? w _ hw121_2)).trans hw121_2), ((HB.out.cell (World.block_lt_of_cell? w _ hw121_3)).trans hw121_3)⟩ (fun hHeld => ?_)
                           clear hK K
                           refine norm_ (a' := ?_) ?_ ?_
                           rotate_left
                           · show Act.put _ (some 61) _ = _
                             simp only [Act.put, List.setIfInBounds_toArray, List.set_cons_zero, List.set_cons_succ, i64_w, i32_w]
                             rfl
                           refine pure_ (i := 26) (N := some 62) (v := ?_) (a' := ?_) bD549 rfl rfl qaD5 (fun _ _ _ h => h) (Or.inl ⟨by rfl, ?_⟩) ?_ ?_
                           rotate_left
                           · intro w'
                             go_simp
                             with_reducible rfl
                           rotate_left
                           · exact qsD50
                           refine done_ (done_of HT_.out (by kernel_rfl)) ?_
                           try go_wp2
                           go_roundg k2
                           case measure => have := HJ2.out; have := HK2.out; omega
                           case rel => exact ⟨(wrap64 (x31_2 + 1)), qD57, H', ⟨by have := HJ2.out; have := HK2.out; omega⟩, ⟨by (with_reducible repeat (first | refine blk_drewN ?_ _ | refine blk_drew ?_ | refine blk_alloc ?_ _)); exact BK117.out⟩, ⟨qD50⟩⟩
                       · rw [if_neg c27] at H
                         exact absurd H (by simp)
                     · rw [if_neg c25] at H
                       have c25b0 : (((rd_T43 l0 (ji22)).f1).toList == a1_1.toList) = false := beq_eq_false_iff_ne.mpr c25; have c25b1 : (((rd_T43 l0 (ji22)).f1).toList != a1_1.toList) = true := bne_iff_ne.mpr c25; obtain rfl := Option.some.inj H; have p120 : 0 ≤ (x31_2 : Int) := of_decide_eq_true qD51; have q120 : x31_2 < (l1_3.length : Int) := of_decide_eq_true qD51; obtain ⟨ad120, e120, hx120_0⟩ := Kd.at_int HR1_3.out x31_2 p120 q120; cases e120; replace hx120_0 := (HB.out.cell (World.block_lt_of_cell? w _ hx120_0)).trans hx120_0; replace p120 := eq_true p120; replace q120 := eq_true q120
                       try go_wp2
                       have n0_ := Aside0.mk (blk_drew BK117.out); have n1_ := Aside0.mk (below_drew1 HB.out); clear BK117; clear HB; have BK117 := n0_; have HB := n1_; clear n0_ n1_; have p121 : 0 ≤ ((ji22) : Int) := of_decide_eq_true qD51; have q121 : (ji22) < (l0.length : Int) := of_decide_eq_true qD51; obtain ⟨ad121, A121_3, c121_3, e121, hx121_0, hx121_1, hx121_2, hx121_3, hl121_3, hi121_3⟩ := at_T43 HR0.out (ji22) p121 q121; have hw121_3 := hx121_3; have hw121_2 := hx121_2; have hw121_1 := hx121_1; have hw121_0 := hx121_0; cases e121; replace hx121_0 := (HB.out.cell (World.block_lt_of_cell? w _ hx121_0)).trans hx121_0; replace hx121_1 := (HB.out.cell (World.block_lt_of_cell? w _ hx121_1)).trans hx121_1; replace hx121_2 := (HB.out.cell (World.block_lt_of_cell? w _ hx121_2)).trans hx121_2; replace hx121_3 := (HB.out.cell (World.block_lt_of_cell? w _ hx121_3)).trans hx121_3; have HR121_3 := Aside0.mk hi121_3; have HC121_3 := Aside0.mk hl121_3; clear hi121_3 hl121_3; replace p121 := eq_true p121; replace q121 := eq_true q121
                       refine start_ (n := 27) (S := fun w' => w'.cell? ⟨gb117, 0, none⟩ = some (.int .i64 a1_0) ∧ w'.cell? ⟨gb117, 1, none⟩ = some (.string a1_1) ∧ w'.cell? ⟨gb117, 2, none⟩ = some (.int .i64 a1_2) ∧ w'.cell? ⟨gb117, 3, none⟩ = some (.slice (some ad120) l1_3.length c1_3) ∧ w'.cell? (ad121.add (((ji22)).toNat * 4)) = some (.int .i64 ((rd_T43 l0 (ji22)).f0)) ∧ w'.cell? ⟨(ad121.add (((ji22)).toNat * 4)).block, (ad121.add (((ji22)).toNat * 4)).off + 1, none⟩ = some (.string ((rd_T43 l0 (ji22)).f1)) ∧ w'.cell? ⟨(ad121.add (((ji22)).toNat * 4)).block, (ad121.add (((ji22)).toNat * 4)).off + 2, none⟩ = some (.int .i64 ((rd_T43 l0 (ji22)).f2)) ∧ w'.cell? ⟨(ad121.add (((ji22)).toNat * 4)).block, (ad121.add (((ji22)).toNat * 4)).off + 3, none⟩ = some (.slice A121_3 ((rd_T43 l0 (ji22)).f3).length c121_3)) (ds := []) bD522 (by kernel_rfl) rfl rfl ⟨(blk_cell BK117.out 0).trans rfl, (blk_cell BK117.out 1).trans rfl, (blk_cell BK117.out 2).trans rfl, (blk_cell BK117.out 3).trans rfl, ((HB.out.cell (World.block_lt_of_cell? w _ hw121_0)).trans hw121_0), ((HB.out.cell (World.block_lt_of_cell? w _ hw121_1)).trans hw121_1), ((HB.out.cell (World.block_lt_of_cell? w _ hw121_2)).trans hw121_2), ((HB.out.cell (World.block_lt_of_cell? w _ hw121_3)).trans hw121_3)⟩ (fun hHeld => ?_); refine with_tabW dag_right.tab6 dag_right.bits6 (fun HT_ HW_ => ?_)
                       generalize wr.drew = w34 at BK117 HB HR121_3 hx121_0 hx121_1 hx121_2 hx121_3 hHeld ⊢
                       refine pure_ (i := 0) (N := some 36) (v := ?_) (a' := ?_) bD523 rfl rfl qaD5 (fun _ _ _ h => h) (Or.inl ⟨by rfl, ?_⟩) ?_ ?_
                       rotate_left
                       · intro w'
                         go_simp
                         with_reducible rfl
                       rotate_left
                       · exact qsD50
                       refine pure_ (i := 1) (N := some 37) (v := ?_) (a' := ?_) bD524 rfl rfl qaD5 (fun _ _ _ h => h) (Or.inl ⟨by rfl, ?_⟩) ?_ ?_
                       rotate_left
                       · intro w'
                         go_simp
                         with_reducible rfl
                       rotate_left
                       · exact qsD50
                       refine pure_ (i := 2) (N := some 38) (v := ?_) (a' := ?_) bD525 rfl rfl qaD5 (fun _ _ _ h => h) (Or.inl ⟨by rfl, ?_⟩) ?_ ?_
                       rotate_left
                       · intro w'
                         go_simp
                         with_reducible rfl
                       rotate_left
                       · exact qsD50
                       refine pure_ (i := 3) (N := some 39) (v := ?_) (a' := ?_) bD526 rfl rfl qaD5 (fun _ _ _ h => h) (Or.inl ⟨by rfl, ?_⟩) ?_ ?_
                       rotate_left
                       · intro w'
                         go_simp
                         with_reducible rfl
                       rotate_left
                       · exact qsD50
                       refine pure_ (i := 4) (N := some 40) (v := ?_) (a' := ?_) bD527 rfl rfl qaD5 (fun _ _ _ h => h) (Or.inl ⟨by rfl, ?_⟩) ?_ ?_
                       rotate_left
                       · intro w'
                         go_simp
                         with_reducible rfl
                       rotate_left
                       · exact qsD50
                       refine pure_ (i := 5) (N := some 41) (v := ?_) (a' := ?_) bD528 rfl rfl qaD5 (fun _ _ _ h => h) (Or.inl ⟨by rfl, ?_⟩) ?_ ?_
                       rotate_left
                       · intro w'
                         go_simp
                         with_reducible rfl
                       rotate_left
                       · exact qsD50
                       refine pure_ (i := 6) (N := some 42) (v := ?_) (a' := ?_) bD529 rfl rfl qaD5 (fun _ _ _ h => h) (Or.inl ⟨by rfl, ?_⟩) ?_ ?_
                       rotate_left
                       · intro w'
                         go_simp
                         with_reducible rfl
                       rotate_left
                       · exact qsD50
                       refine pure_ (i := 7) (N := some 43) (v := ?_) (a' := ?_) bD530 rfl rfl qaD5 (fun _ _ _ h => h) (Or.inl ⟨by rfl, ?_⟩) ?_ ?_
                       rotate_left
                       · intro w'
                         go_simp
                         with_reducible rfl
                       rotate_left
                       · exact qsD50
                       refine pure_ (i := 8) (N := some 44) (v := ?_) (a' := ?_) bD531 rfl rfl qaD5 (fun _ _ _ h => h) (Or.inl ⟨by rfl, ?_⟩) ?_ ?_
                       rotate_left
                       · intro w'
                         go_simp
                         with_reducible rfl
                       rotate_left
                       · exact qsD50
                       refine pure_ (i := 9) (N := some 45) (v := ?_) (a' := ?_) bD532 rfl rfl qaD5 (fun _ _ _ h => h) (Or.inl ⟨by rfl, ?_⟩) ?_ ?_
                       rotate_left
                       · intro w'
                         go_simp
                         with_reducible rfl
                       rotate_left
                       · exact qsD50
                       refine pure_ (i := 10) (N := some 46) (v := ?_) (a' := ?_) bD533 rfl rfl qaD5 (fun _ _ _ h => h) (Or.inl ⟨by rfl, ?_⟩) ?_ ?_
                       rotate_left
                       · intro w'
                         go_simp
                         with_reducible rfl
                       rotate_left
                       · exact qsD50
                       refine pure_ (i := 11) (N := some 47) (v := ?_) (a' := ?_) bD534 rfl rfl qaD5 (fun _ _ _ h => h) (Or.inl ⟨by rfl, ?_⟩) ?_ ?_
                       rotate_left
                       · intro w'
                         go_simp
                         with_reducible rfl
                       rotate_left
                       · exact qsD50
                       refine pure_ (i := 12) (N := some 48) (v := ?_) (a' := ?_) bD535 rfl rfl qaD5 (fun _ _ _ h => h) (Or.inl ⟨by rfl, ?_⟩) ?_ ?_
                       rotate_left
                       · intro w'
                         go_simp
                         with_reducible rfl
                       rotate_left
                       · exact qsD50
                       refine pure_ (i := 13) (N := some 49) (v := ?_) (a' := ?_) bD536 rfl rfl qaD5 (fun _ _ _ h => h) (Or.inl ⟨by rfl, ?_⟩) ?_ ?_
                       rotate_left
                       · intro w'
                         go_simp
                         with_reducible rfl
                       rotate_left
                       · exact qsD50
                       refine pure_ (i := 15) (N := some 51) (v := ?_) (a' := ?_) bD550 rfl rfl qaD5 (fun _ _ _ h => h) (Or.inl ⟨by rfl, ?_⟩) ?_ ?_
                       rotate_left
                       · intro w'
                         go_simp
                         with_reducible rfl
                       rotate_left
                       · exact qsD50
                       refine take_ (i := 14) (N := some 50) (v := ?_) (a' := ?_) bD538 rfl rfl qtD5 (fun _ _ _ h => h) (Or.inl ⟨by rfl, ?_⟩) hHeld ?_ ?_
                       rotate_left
                       · rintro w' ⟨s0, s1, s2, s3, s4, s5, s6, s7⟩
                         go_simp
                         with_reducible rfl
                       rotate_left
                       · exact qsD50
                       refine take_ (i := 16) (N := some 52) (v := ?_) (a' := ?_) bD539 rfl rfl qtD5 (fun _ _ _ h => h) (Or.inl ⟨by rfl, ?_⟩) hHeld ?_ ?_
                       rotate_left
                       · rintro w' ⟨s0, s1, s2, s3, s4, s5, s6, s7⟩
                         go_simp
                         with_reducible rfl
                       rotate_left
                       · exact qsD50
                       refine pure_ (i := 17) (N := some 53) (v := ?_) (a' := ?_) bD540 rfl rfl qaD5 (fun _ _ _ h => h) (Or.inl ⟨by rfl, ?_⟩) ?_ ?_
                       rotate_left
                       · intro w'
                         go_simp
                         with_reducible rfl
                       rotate_left
                       · exact qsD50
                       refine pure_ (i := 18) (N := some 54) (v := ?_) (a' := ?_) bD541 rfl rfl qaD5 (fun _ _ _ h => h) (Or.inl ⟨by rfl, ?_⟩) ?_ ?_
                       rotate_left
                       · intro w'
                         go_simp
                         with_reducible rfl
                       rotate_left
                       · exact qsD50
                       refine pure_ (i := 19) (N := some 55) (v := ?_) (a' := ?_) bD542 rfl rfl qaD5 (fun _ _ _ h => h) (Or.inl ⟨by rfl, ?_⟩) ?_ ?_
                       rotate_left
                       · intro w'
                         go_simp
                         with_reducible rfl
                       rotate_left
                       · exact qsD50
                       refine pure_ (i := 20) (N := some 56) (v := undef) (a' := ?_) bD543 rfl rfl qaD5 (fun _ _ _ h => h) (Or.inr ⟨by rfl, rfl⟩) ?_ ?_
                       rotate_left
                       · exact qsD50
                       refine pure_ (i := 21) (N := some 57) (v := undef) (a' := ?_) bD544 rfl rfl qaD5 (fun _ _ _ h => h) (Or.inr ⟨by rfl, rfl⟩) ?_ ?_
                       rotate_left
                       · exact qsD50
                       refine pure_ (i := 22) (N := some 58) (v := undef) (a' := ?_) bD545 rfl rfl qaD5 (fun _ _ _ h => h) (Or.inr ⟨by rfl, rfl⟩) ?_ ?_
                       rotate_left
                       · exact qsD50
                       refine pure_ (i := 23) (N := some 59) (v := undef) (a' := ?_) bD546 rfl rfl qaD5 (fun _ _ _ h => h) (Or.inr ⟨by rfl, rfl⟩) ?_ ?_
                       rotate_left
                       · exact qsD50
                       refine pure_ (i := 24) (N := some 60) (v := undef) (a' := ?_) bD547 rfl rfl qaD5 (fun _ _ _ h => h) (Or.inr ⟨by rfl, rfl⟩) ?_ ?_
                       rotate_left
                       · exact qsD50
                       refine pure_ (i := 25) (N := some 61) (v := undef) (a' := ?_) bD548 rfl rfl qaD5 (fun _ _ _ h => h) (Or.inr ⟨by rfl, rfl⟩) ?_ ?_
                       rotate_left
                       · exact qsD50
                       refine pure_ (i := 26) (N := some 62) (v := ?_) (a' := ?_) bD549 rfl rfl qaD5 (fun _ _ _ h => h) (Or.inl ⟨by rfl, ?_⟩) ?_ ?_
                       rotate_left
                       · intro w'
                         go_simp
                         with_reducible rfl
                       rotate_left
                       · exact qsD50
                       refine done_ (done_of HT_.out (by kernel_rfl)) ?_
                       try go_wp2
                       go_ret
                       exact ⟨qD56, qD50⟩
                   · rw [if_neg c24] at H
                     exact absurd H (by simp)
                 · rw [if_neg c23] at H
                   exact absurd H (by simp)
           · rw [if_neg c17] at H
             exact absurd H (by simp)
         · rw [if_neg c16] at H
           exact absurd H (by simp)
       · rw [if_neg c15] at H
         have c15b0 : decide (x31_2 < (l1_3.length : Int)) = false := decide_eq_false c15; clear c15; obtain rfl := Option.some.inj H
         go_wp2
         go_ret
         exact ⟨qD54, qD50⟩

end Go.Proofs.YtgopimjfoppkmaaDoor.D
