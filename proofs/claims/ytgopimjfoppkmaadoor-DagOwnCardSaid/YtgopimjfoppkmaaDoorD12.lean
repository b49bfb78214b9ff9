/- Printed functions, each with a proof that the call answers so. -/
import Derived.Test.YtgopimjfoppkmaaDoorDOwnMut
import Derived.Test.YtgopimjfoppkmaaDoorD0
import Derived.Test.YtgopimjfoppkmaaDoorD1
import Derived.Test.YtgopimjfoppkmaaDoorD6
import Derived.Test.YtgopimjfoppkmaaDoorD10
import Derived.Test.YtgopimjfoppkmaaDoorD11
namespace Go.Proofs.YtgopimjfoppkmaaDoor.D
open Go.RowKit Go.Proofs.YtgopimjfoppkmaaDoorW.PrintWords Go.Proofs.YtgopimjfoppkmaaDoorW.PrintLast Go.Proofs.YtgopimjfoppkmaaDoorW.PrintMore
attribute [local go_sem] max2_int min2_int max_two min_two max_three min_three max_four min_four   -- for this text's walks alone
set_option linter.unusedVariables false
set_option linter.unusedSimpArgs false

theorem mND12 {p q : Prop} (x : q) (h : q → p := by intro x_; (with_reducible repeat (first | apply Kd.N_alloc | apply Kd.N_drewN | apply Kd.N_drew)); exact x_) : p := h x
abbrev bD120 : Array Bool := #[false, false, false, false, false, false, false, false, false, false, false, false, false, false, false, false, false, false, false, false, false, false, false, false, false, false, false, false, false, false, false, false, false, false, false]
abbrev bD121 : Array Bool := #[true, false, false, false, false, false, false, false, false, false, false, false, false, false, false, false, false, false, false, false, false, false, false, false, false, false, false, false, false, false, false, false, false, false, false]
abbrev bD122 : Array Bool := #[true, true, false, false, false, false, false, false, false, false, false, false, false, false, false, false, false, false, false, false, false, false, false, false, false, false, false, false, false, false, false, false, false, false, false]
abbrev bD123 : Array Bool := #[true, true, true, false, false, false, false, false, false, false, false, false, false, false, false, false, false, false, false, false, false, false, false, false, false, false, false, false, false, false, false, false, false, false, false]
abbrev bD124 : Array Bool := #[true, true, true, true, false, false, false, false, false, false, false, false, false, false, false, false, false, false, false, false, false, false, false, false, false, false, false, false, false, false, false, false, false, false, false]
abbrev bD125 : Array Bool := #[true, true, true, true, true, false, false, false, false, false, false, false, false, false, false, false, false, false, false, false, false, false, false, false, false, false, false, false, false, false, false, false, false, false, false]
abbrev bD126 : Array Bool := #[true, true, true, true, true, true, false, false, false, false, false, false, false, false, false, false, false, false, false, false, false, false, false, false, false, false, false, false, false, false, false, false, false, false, false]
abbrev bD127 : Array Bool := #[true, true, true, true, true, true, true, false, false, false, false, false, false, false, false, false, false, false, false, false, false, false, false, false, false, false, false, false, false, false, false, false, false, false, false]
abbrev bD128 : Array Bool := #[true, true, true, true, true, true, true, true, false, false, false, false, false, false, false, false, false, false, false, false, false, false, false, false, false, false, false, false, false, false, false, false, false, false, false]
abbrev bD129 : Array Bool := #[true, true, true, true, true, true, true, true, true, false, false, false, false, false, false, false, false, false, false, false, false, false, false, false, false, false, false, false, false, false, false, false, false, false, false]
abbrev bD1210 : Array Bool := #[true, true, true, true, true, true, true, true, true, true, false, false, false, false, false, false, false, false, false, false, false, false, false, false, false, false, false, false, false, false, false, false, false, false, false]
abbrev bD1211 : Array Bool := #[true, true, true, true, true, true, true, true, true, true, true, false, false, false, false, false, false, false, false, false, false, false, false, false, false, false, false, false, false, false, false, false, false, false, false]
abbrev bD1212 : Array Bool := #[true, true, true, true, true, true, true, true, true, true, true, true, false, false, false, false, false, false, false, false, false, false, false, false, false, false, false, false, false, false, false, false, false, false, false]
abbrev bD1213 : Array Bool := #[true, true, true, true, true, true, true, true, true, true, true, true, true, false, false, false, false, false, false, false, false, false, false, false, false, false, false, false, false, false, false, false, false, false, false]
abbrev bD1214 : Array Bool := #[true, true, true, true, true, true, true, true, true, true, true, true, true, true, false, false, false, false, false, false, false, false, false, false, false, false, false, false, false, false, false, false, false, false, false]
abbrev bD1215 : Array Bool := #[true, true, true, true, true, true, true, true, true, true, true, true, true, true, true, false, false, false, false, false, false, false, false, false, false, false, false, false, false, false, false, false, false, false, false]
abbrev bD1216 : Array Bool := #[true, true, true, true, true, true, true, true, true, true, true, true, true, true, true, true, false, false, false, false, false, false, false, false, false, false, false, false, false, false, false, false, false, false, false]
abbrev bD1217 : Array Bool := #[true, true, true, true, true, true, true, true, true, true, true, true, true, true, true, true, true, false, false, false, false, false, false, false, false, false, false, false, false, false, false, false, false, false, false]
abbrev bD1218 : Array Bool := #[true, true, true, true, true, true, true, true, true, true, true, true, true, true, true, true, true, true, false, false, false, false, false, false, false, false, false, false, false, false, false, false, false, false, false]
abbrev bD1219 : Array Bool := #[true, true, true, true, true, true, true, true, true, true, true, true, true, true, true, true, true, true, true, false, false, false, false, false, false, false, false, false, false, false, false, false, false, false, false]
abbrev bD1220 : Array Bool := #[true, true, true, true, true, true, true, true, true, true, true, true, true, true, true, true, true, true, true, true, true, false, false, false, false, false, false, false, false, false, false, false, false, false, false]
abbrev bD1221 : Array Bool := #[true, true, true, true, true, true, true, true, true, true, true, true, true, true, true, true, true, true, true, true, true, true, false, false, false, false, false, false, false, false, false, false, false, false, false]
abbrev bD1222 : Array Bool := #[true, true, true, true, true, true, true, true, true, true, true, true, true, true, true, true, true, true, true, true, true, true, true, false, false, false, false, false, false, false, false, false, false, false, false]
abbrev bD1223 : Array Bool := #[true, true, true, true, true, true, true, true, true, true, true, true, true, true, true, true, true, true, true, true, true, true, true, true, false, false, false, false, false, false, false, false, false, false, false]
abbrev bD1224 : Array Bool := #[true, true, true, true, true, true, true, true, true, true, true, true, true, true, true, true, true, true, true, true, true, true, true, true, true, false, false, false, false, false, false, false, false, false, false]
abbrev bD1225 : Array Bool := #[true, true, true, true, true, true, true, true, true, true, true, true, true, true, true, true, true, true, true, true, true, true, true, true, true, true, false, false, false, false, false, false, false, false, false]
abbrev bD1226 : Array Bool := #[true, true, true, true, true, true, true, true, true, true, true, true, true, true, true, true, true, true, true, true, true, true, true, true, true, true, true, false, false, false, false, false, false, false, false]
abbrev bD1227 : Array Bool := #[true, true, true, true, true, true, true, true, true, true, true, true, true, true, true, true, true, true, true, true, true, true, true, true, true, true, true, true, false, false, false, false, false, false, false]
abbrev bD1228 : Array Bool := #[true, true, true, true, true, true, true, true, true, true, true, true, true, true, true, true, true, true, true, true, true, true, true, true, true, true, true, true, true, false, false, false, false, false, false]
abbrev bD1229 : Array Bool := #[true, true, true, true, true, true, true, true, true, true, true, true, true, true, true, true, true, true, true, true, true, true, true, true, true, true, true, true, true, true, false, false, false, false, false]
abbrev bD1230 : Array Bool := #[true, true, true, true, true, true, true, true, true, true, true, true, true, true, true, true, true, true, true, true, true, true, true, true, true, true, true, true, true, true, true, false, false, false, false]
abbrev bD1231 : Array Bool := #[true, true, true, true, true, true, true, true, true, true, true, true, true, true, true, true, true, true, true, true, true, true, true, true, true, true, true, true, true, true, true, true, false, false, false]
abbrev bD1232 : Array Bool := #[true, true, true, true, true, true, true, true, true, true, true, true, true, true, true, true, true, true, true, true, true, true, true, true, true, true, true, true, true, true, true, true, true, false, false]
abbrev bD1233 : Array Bool := #[true, true, true, true, true, true, true, true, true, true, true, true, true, true, true, true, true, true, true, true, true, true, true, true, true, true, true, true, true, true, true, true, true, true, false]
abbrev bD1234 : Array Bool := #[true, true, true, true, true, true, true, true, true, true, true, true, true, true, true, true, true, true, true, true, true, true, true, true, true, true, true, true, true, true, true, true, true, true, true]
theorem qaD12 {p : Prop} (h : p := by exact any_of HT_.out (by kernel_rfl)) : p := h
theorem qsD120 {p : Prop} (h : p := by simp only [Act.put, List.setIfInBounds_toArray, List.set_cons_zero, List.set_cons_succ, i64_w, i32_w]; rfl) : p := h
theorem qD120 {p : Prop} (h : p := by repeat (first | (with_reducible first | exact HB.out | apply below_alloc | apply pw_below_drewN | apply below_drew1 | refine below_set ?_ GE234.out) | exact HB.out)) : p := h
theorem qD121 {p : Prop} (h : p := by (with_reducible repeat (first | refine blk_drewN ?_ _ | refine blk_drew ?_ | refine blk_alloc ?_ _)); exact BK234.out) : p := h
theorem qD122 {p : Prop} (h : p := by (try simp only [List.map_toArray, List.map_cons, List.map_nil]); first | done | rfl | (simp only [List.length_drop, List.length_take]; rfl)) : p := h
theorem qD123 {p : Prop} (h : p := by repeat (first | (with_reducible first | exact HB.out | apply below_alloc | apply pw_below_drewN | apply below_drew1) | exact HB.out)) : p := h
theorem qD124 {p : Prop} (h : p := by repeat (first | (with_reducible exact HR245_3.out) | (with_reducible refine Kd.C_alloc ?_ _) | (with_reducible refine Kd.C_drewN ?_ _) | (with_reducible refine Kd.C_drew ?_) | exact HR245_3.out)) : p := h
theorem qD125 {p : Prop} (h : p := by repeat (first | exact (Kd.C_below HR0.out HB.out) | (with_reducible refine Kd.C_alloc ?_ _) | (with_reducible refine Kd.C_drewN ?_ _) | (with_reducible refine Kd.C_drew ?_))) : p := h
theorem qD126 {p : Prop} (h : p := by first | rfl | (simp [errW_none, errW_some] <;> rfl) | (simp [*, errW_none, errW_some] <;> rfl)) : p := h
theorem qD127 {p : Prop} (h : p := by rw [e_]; exact GW234.out) : p := h
theorem qD128 {p : Prop} (h : p := by exact Aside0.mk (Laid.below HG.out qD120)) : p := h
theorem qD129 {p : Prop} (h : p := by exact Kd.V_mk HC1_3.out (Kd.F_below (Kd.C_F (Kd.heap_int .i64) HR1_3.out) qD120)) : p := h
theorem qD1210 {p : Prop} (h : p := by exact Kd.V_mk HC0.out (Kd.F_below (Kd.C_F k43_heap HR0.out) qD120)) : p := h
/-! ### rectolaw31_DagOwn: function 6 -/
def rectolaw31_DagOwn.j0 : Nat → List (S43) → Bool → Int → ByteArray → Int → List Int → Option (Bool)
 | 0, _, _, _, _, _, _ => none
 | k + 1, x0, x18, x235000, x235001, x235002, x235003 => if x18 = true then ((rectolaw31_four.f k).bind fun t236 => (some t236)) else ((dag_Add.f k x0 x235000 x235001 x235002 x235003).bind fun bt237 => ((dag_Add.f k x0 x235000 x235001 x235002 x235003).bind fun bt241 => (if bt237.2 = bt241.2 then (if bt237.2 = 0 then (if (bt241.1.length : Int) = (wrap64 ((x0.length : Int) + 1)) then (if 0 ≤ (x0.length : Int) then (if (x0.length : Int) < (bt241.1.length : Int) then (if ((rd_T43 bt241.1 (x0.length : Int)).f1).toList = x235001.toList then ((dag_Check.f k bt241.1).bind fun t246 => (if t246 = 0 then ((rectolaw31_four.f k).bind fun t247 => (some t247)) else (some false))) else (some false)) else (none)) else (none)) else (some false)) else ((rectolaw31_four.f k).bind fun t248 => (some t248))) else (some false))))
def rectolaw31_DagOwn.f (k : Nat) (l0 : List (S43)) (a1_0 : Int) (a1_1 : ByteArray) (a1_2 : Int) (l1_3 : List Int) : Option (Bool) := (rectolaw31_long.f k l0).bind fun t235 => (if t235 = true then (rectolaw31_DagOwn.j0 k l0 true a1_0 a1_1 a1_2 l1_3) else (rectolaw31_DagOwn.j0 k l0 (decide ((l1_3.length : Int) > 20)) a1_0 a1_1 a1_2 l1_3))
theorem rectolaw31_DagOwn.mono_l : ∀ k, (∀ y0 y1 y2 y3 y4 y5, LeO (rectolaw31_DagOwn.j0 k y0 y1 y2 y3 y4 y5) (rectolaw31_DagOwn.j0 (k + 1) y0 y1 y2 y3 y4 y5))
 | 0 => fun _ _ _ _ _ _ r h => by simp [rectolaw31_DagOwn.j0] at h
 | k + 1 => by
  have ih0 := rectolaw31_DagOwn.mono_l k
  · intro y0 y1 y2 y3 y4 y5
    unfold rectolaw31_DagOwn.j0
    repeat' first
    | (with_reducible exact ih0 _ _ _ _ _ _)
    | (with_reducible exact dag_Add.mono _ _ _ _ _ _)
    | (with_reducible exact dag_Check.mono _ _)
    | (with_reducible exact rectolaw31_four.mono _)
    | (with_reducible exact rectolaw31_long.mono _ _)
    | (with_reducible exact LeO.refl _)
    | (with_reducible exact LeO.none _)
    | (with_reducible refine LeO.ite ?_ ?_)
    | (with_reducible refine LeO.bind ?_ (fun _ => ?_))
    | exact ih0 _ _ _ _ _ _
    | exact dag_Add.mono _ _ _ _ _ _
    | exact dag_Check.mono _ _
    | exact rectolaw31_four.mono _
    | exact rectolaw31_long.mono _ _
    | exact LeO.none _
    | refine LeO.ite ?_ ?_
    | refine LeO.bind ?_ (fun _ => ?_)
theorem rectolaw31_DagOwn.mono : ∀ a0 a1 a2 a3 a4 k, LeO (rectolaw31_DagOwn.f k a0 a1 a2 a3 a4) (rectolaw31_DagOwn.f (k + 1) a0 a1 a2 a3 a4) := by
 intro a0 a1 a2 a3 a4 k
 have ih0 := rectolaw31_DagOwn.mono_l k; unfold rectolaw31_DagOwn.f
 repeat' first
  | (with_reducible exact ih0 _ _ _ _ _ _)
  | (with_reducible exact dag_Add.mono _ _ _ _ _ _)
  | (with_reducible exact dag_Check.mono _ _)
  | (with_reducible exact rectolaw31_four.mono _)
  | (with_reducible exact rectolaw31_long.mono _ _)
  | (with_reducible exact LeO.refl _)
  | (with_reducible exact LeO.none _)
  | (with_reducible refine LeO.ite ?_ ?_)
  | (with_reducible refine LeO.bind ?_ (fun _ => ?_))
  | exact ih0 _ _ _ _ _ _
  | exact dag_Add.mono _ _ _ _ _ _
  | exact dag_Check.mono _ _
  | exact rectolaw31_four.mono _
  | exact rectolaw31_long.mono _ _
  | exact LeO.none _
  | refine LeO.ite ?_ ?_
  | refine LeO.bind ?_ (fun _ => ?_)
def rectolaw31_DagOwn.T15 : Bool × List (List Nat × List Nat) := (true, [([], []), ([], []), ([0, 1], [0, 1]), ([2], [2]), ([3], [3]), ([4, 3], [3, 4]), ([5, 3, 3], [3, 5]), ([6], [6]), ([7, 6], [6, 7]), ([6], [6]), ([9, 6], [6, 9]), ([10, 6], [6, 10]), ([8, 11, 6], [6, 8, 11]), ([12, 6, 6], [6, 12]), ([13], [13]), ([13], [13]), ([15, 13], [13, 15]), ([14, 16, 13], [13, 14, 16]), ([17, 13], [13, 17]), ([18, 13], [13, 18]), ([13], [13]), ([20, 13], [13, 20]), ([19, 21, 13], [13, 19, 21]), ([13, 22, 6], [6, 13, 22]), ([23, 13, 6], [6, 23]), ([24], [24]), ([25, 24, 24], [24, 25]), ([26, 24], [24, 26]), ([24, 27, 6], [6, 24, 27]), ([6, 28, 3], [3, 6, 28]), ([3, 29], [3, 29]), ([30, 26], [30]), ([31, 31], [31]), ([31, 32], [31, 32]), ([33, 32, 0, 1, 2, 3, 4, 5, 6, 7, 8, 9, 10, 11, 12, 13, 14, 15, 16, 17, 18, 19, 20, 21, 22, 23, 24, 25, 26, 27, 28, 29, 30, 31, 32, 33], [33])])
def rectolaw31_DagOwn.B15 : List Nat := [0, 0, 3, 7, 15, 31, 63, 127, 255, 127, 639, 1663, 4095, 8191, 16383, 16383, 49151, 131071, 262143, 524287, 16383, 1064959, 4194303, 8388607, 16777215, 33554431, 67108863, 134217727, 268435455, 536870911, 1073741823, 2147483647, 4294967295, 8589934591, 17179869183]
theorem rectolaw31_DagOwn.tab15 : rtab .any (opsOf Tryd.f6 15) = rectolaw31_DagOwn.T15 := by kernel_rfl
theorem rectolaw31_DagOwn.bits15 : waitsOk rectolaw31_DagOwn.T15.2 rectolaw31_DagOwn.B15 = true := by kernel_rfl
set_option maxHeartbeats 8000000 in
set_option maxRecDepth 100000 in
theorem rectolaw31_DagOwn.calls_true (k : Nat) (A0 : Option Addr) (c0 : Nat) (l0 : List (S43)) (a1_0 : Int) (a1_1 : ByteArray) (a1_2 : Int) (A1_3 : Option Addr) (c1_3 : Nat) (l1_3 : List Int) (r : Bool) (w : World) (hr0 : Kd.C k43 w A0 l0.length l0) (hc0 : l0.length ≤ c0) (hr1_3 : Kd.C (Kd.int .i64) w A1_3 l1_3.length l1_3) (hc1_3 : l1_3.length ≤ c1_3) (h : rectolaw31_DagOwn.f k l0 a1_0 a1_1 a1_2 l1_3 = some r) (HG : Aside0 (Laid w)) (hr_ : Aside0 (r = true)) :
 Calls Tryd.prog 6 #[.slice A0 l0.length c0, .agg #[.int .i64 a1_0, .string a1_1, .int .i64 a1_2, .slice A1_3 l1_3.length c1_3]] w fun e w' => e = .returned (.bool r) ∧ Below w.heap.size w w' := by
 have hu43 := Tryd.underlying43; have HR0 := Aside0.mk hr0; have HC0 := Aside0.mk hc0; clear hr0 hc0; have HR1_3 := Aside0.mk hr1_3; have HC1_3 := Aside0.mk hc1_3; clear hr1_3 hc1_3; have HB := Aside0.mk (Below.refl w.heap.size w)
 have H : ((rectolaw31_long.f k l0).bind fun t235 => (if t235 = true then (rectolaw31_DagOwn.j0 k l0 true a1_0 a1_1 a1_2 l1_3) else (rectolaw31_DagOwn.j0 k l0 (decide ((l1_3.length : Int) > 20)) a1_0 a1_1 a1_2 l1_3))) = some r := h
 clear h; have HC3 := Aside0.mk H; clear H
 go_enter Tryd.func6, Tryd.ntmps6
 go_upto_region 1 with (first | ((with_reducible refine gate_dst (N := 3) rfl ?_); (try (refine gate_guard (by rfl) ?_; dsimp only)); refine box_event ?hg (N := 3) ?hd (cs := #[.int .i64 a1_0, .string a1_1, .int .i64 a1_2, .slice A1_3 l1_3.length c1_3]) (t := 43) ?hr ?_; (case hd => rfl); (case hg => rfl); (case hr => first | (go_simp; done) | (go_simp; rfl)); intro gb234 hg w4 hbox hb; have n0_ := Aside0.mk (below_step qD123 hb); have n1_ := Aside0.mk (hbox); have n2_ := Aside0.mk ((by rw [hg]; exact (below_size qD123) : w.heap.size ≤ gb234)); have n3_ := Aside0.mk ((by rw [hg]; exact (below_size qD123) : w.heap.size ≤ gb234)); clear HB; have HB := n0_; have BK234 := n1_; have GW234 := n2_; have GE234 := n3_; clear n0_ n1_ n2_ n3_; clear hb hbox hg))
 (try simp only [Act.put, List.setIfInBounds_toArray, List.set_cons_zero, List.set_cons_succ])
 go_cut [18] (fun v18 wc => ∃ (kq : Nat) (x18_2 : Bool), v18 = .bool x18_2 ∧ Aside0 (rectolaw31_DagOwn.j0 kq l0 x18_2 a1_0 a1_1 a1_2 l1_3 = some r) ∧ Aside0 (kq ≤ k) ∧ Aside0 (wc.heap[gb234]? = some (.cells #[.int .i64 a1_0, .string a1_1, .int .i64 a1_2, (.slice A1_3 l1_3.length c1_3)] 43 (0, 0))) ∧ Aside0 (Below w.heap.size w wc))
 case first =>
  have H := HC3.out; clear HC3; replace H := Option.bind_eq_some_iff.mp H; obtain ⟨t235, A50, H⟩ := H
  replace H : (if t235 = true then (rectolaw31_DagOwn.j0 k l0 true a1_0 a1_1 a1_2 l1_3) else (rectolaw31_DagOwn.j0 k l0 (decide ((l1_3.length : Int) > 20)) a1_0 a1_1 a1_2 l1_3)) = some r := H
  have A5 := Aside0.mk A50; clear A50
  by_cases c6 : t235 = true
  · subst c6
    have H1 : (rectolaw31_DagOwn.j0 k l0 true a1_0 a1_1 a1_2 l1_3) = some r := by rw [if_pos rfl] at H; exact H
    clear H; have H := H1; clear H1; have H' := Aside0.mk H; clear H
    go_wp2_with (first | ((with_reducible refine gate_callee (f := 7) rfl ?_); refine goesL_ (some 12) rfl rfl Tryd.func7 (by kernel_rfl) rfl #[.slice A0 l0.length c0] rfl qD122 ?_; (with_reducible refine (rectolaw31_long.calls k _ _ l0 true _ ?side1 ?side2 A5.out ?side3).mono ?_); (case side1 => exact qD125); (case side2 => exact HC0.out); (case side3 => exact qD128); rintro e w7 ⟨rfl, hb⟩; refine ⟨_, rfl, ?_⟩; have n0_ := Aside0.mk (blk_below (g := gb234) (o := .cells #[.int .i64 a1_0, .string a1_1, .int .i64 a1_2, .slice A1_3 l1_3.length c1_3] 43 (0, 0)) qD121 hb); have n1_ := Aside0.mk (below_step qD120 hb); clear BK234; clear HB; have BK234 := n0_; have HB := n1_; clear n0_ n1_; (try clear hb); (try clear hb2); (try clear hk); (try clear hi)))
    go_meet
    case rel => exact ⟨_, (true), (by first | rfl | (simp; done) | (simp [*]; done)), H', ⟨by first | omega | exact Nat.le_refl _⟩, ⟨by (with_reducible repeat (first | refine blk_drewN ?_ _ | refine blk_drew ?_ | refine blk_alloc ?_ _)); exact BK234.out⟩, ⟨qD120⟩⟩
  · replace c6 := Bool.eq_false_iff.mpr c6
    subst c6
    have H1 : (rectolaw31_DagOwn.j0 k l0 (decide ((l1_3.length : Int) > 20)) a1_0 a1_1 a1_2 l1_3) = some r := by rw [if_neg (show ¬ (false = true) by decide)] at H; exact H
    clear H; have H := H1; clear H1; have H' := Aside0.mk H; clear H
    go_wp2_with (first | ((with_reducible refine gate_callee (f := 7) rfl ?_); refine goesL_ (some 12) rfl rfl Tryd.func7 (by kernel_rfl) rfl #[.slice A0 l0.length c0] rfl qD122 ?_; (with_reducible refine (rectolaw31_long.calls k _ _ l0 false _ ?side1 ?side2 A5.out ?side3).mono ?_); (case side1 => exact qD125); (case side2 => exact HC0.out); (case side3 => exact qD128); rintro e w8 ⟨rfl, hb⟩; refine ⟨_, rfl, ?_⟩; have n0_ := Aside0.mk (blk_below (g := gb234) (o := .cells #[.int .i64 a1_0, .string a1_1, .int .i64 a1_2, .slice A1_3 l1_3.length c1_3] 43 (0, 0)) qD121 hb); have n1_ := Aside0.mk (below_step qD120 hb); clear BK234; clear HB; have BK234 := n0_; have HB := n1_; clear n0_ n1_; (try clear hb); (try clear hb2); (try clear hk); (try clear hi); have hcz9_0 : w8.cell? ⟨gb234, 0, none⟩ = some (.int .i64 a1_0) := (blk_cell BK234.out 0).trans rfl; have hcz9_1 : w8.cell? ⟨gb234, 1, none⟩ = some (.string a1_1) := (blk_cell BK234.out 1).trans rfl; have hcz9_2 : w8.cell? ⟨gb234, 2, none⟩ = some (.int .i64 a1_2) := (blk_cell BK234.out 2).trans rfl; have hcz9_3 : w8.cell? ⟨gb234, 3, none⟩ = some (.slice A1_3 l1_3.length c1_3) := (blk_cell BK234.out 3).trans rfl; have hfz9_0 := blk_frozen BK234.out 0; have hfz9_1 := blk_frozen BK234.out 1; have hfz9_2 := blk_frozen BK234.out 2; have hfz9_3 := blk_frozen BK234.out 3))
    go_meet
    case rel => exact ⟨_, (decide ((l1_3.length : Int) > 20)), (by first | rfl | (simp; done) | (simp [*]; done)), H', ⟨by first | omega | exact Nat.le_refl _⟩, ⟨by (with_reducible repeat (first | refine blk_drewN ?_ _ | refine blk_drew ?_ | refine blk_alloc ?_ _)); exact BK234.out⟩, ⟨qD120⟩⟩
 case rest =>
  clear HC3; (try clear c1); (try clear p2); (try clear c6); (try clear c7); (try clear hcz9_0); (try clear hcz9_1); (try clear hcz9_2); (try clear hcz9_3); (try clear hfz9_0); (try clear hfz9_1); (try clear hfz9_2); (try clear hfz9_3); obtain ⟨kq, x18_2, rfl, HA, HJ2, BK234, HB⟩ := hcut
  cases kq with
  | zero => exact absurd HA.out (by simp [rectolaw31_DagOwn.j0])
  | succ kj2 =>
   have H := HA.out; clear HA; simp only [rectolaw31_DagOwn.j0] at H
   by_cases c10 : x18_2 = true
   · subst c10
     have H1 : ((rectolaw31_four.f kj2).bind fun t236 => (some t236)) = some r := by rw [if_pos rfl] at H; exact H
     clear H; have H := H1; clear H1; replace H := Option.bind_eq_some_iff.mp H; obtain ⟨t236, A110, H⟩ := H; replace H : (some t236) = some r := H; have A11 := Aside0.mk A110; clear A110; obtain rfl := Option.some.inj H
     go_wp2_with (first | ((with_reducible refine gate_callee (f := 8) rfl ?_); refine goesL_ (some 19) rfl rfl Tryd.func8 (by kernel_rfl) rfl #[] rfl qD122 ?_; (with_reducible refine (rectolaw31_four.calls kj2  t236 _ A11.out ?side1).mono ?_); (case side1 => exact qD128); rintro e w12 ⟨rfl, hb⟩; refine ⟨_, rfl, ?_⟩; have n0_ := Aside0.mk (blk_below (g := gb234) (o := .cells #[.int .i64 a1_0, .string a1_1, .int .i64 a1_2, .slice A1_3 l1_3.length c1_3] 43 (0, 0)) qD121 hb); have n1_ := Aside0.mk (below_step qD120 hb); clear BK234; clear HB; have BK234 := n0_; have HB := n1_; clear n0_ n1_; (try clear hb); (try clear hb2); (try clear hk); (try clear hi)))
     go_ret
     exact ⟨qD126, qD120⟩
   · replace c10 := Bool.eq_false_iff.mpr c10
     subst c10
     have H1 : ((dag_Add.f kj2 l0 a1_0 a1_1 a1_2 l1_3).bind fun bt237 => ((dag_Add.f kj2 l0 a1_0 a1_1 a1_2 l1_3).bind fun bt241 => (if bt237.2 = bt241.2 then (if bt237.2 = 0 then (if (bt241.1.length : Int) = (wrap64 ((l0.length : Int) + 1)) then (if 0 ≤ (l0.length : Int) then (if (l0.length : Int) < (bt241.1.length : Int) then (if ((rd_T43 bt241.1 (l0.length : Int)).f1).toList = a1_1.toList then ((dag_Check.f kj2 bt241.1).bind fun t246 => (if t246 = 0 then ((rectolaw31_four.f kj2).bind fun t247 => (some t247)) else (some false))) else (some false)) else (none)) else (none)) else (some false)) else ((rectolaw31_four.f kj2).bind fun t248 => (some t248))) else (some false)))) = some r := by rw [if_neg (show ¬ (false = true) by decide)] at H; exact H
     clear H; have H := H1; clear H1; replace H := Option.bind_eq_some_iff.mp H; obtain ⟨⟨t237, t240⟩, A130, H⟩ := H
     replace H : ((dag_Add.f kj2 l0 a1_0 a1_1 a1_2 l1_3).bind fun bt241 => (if t240 = bt241.2 then (if t240 = 0 then (if (bt241.1.length : Int) = (wrap64 ((l0.length : Int) + 1)) then (if 0 ≤ (l0.length : Int) then (if (l0.length : Int) < (bt241.1.length : Int) then (if ((rd_T43 bt241.1 (l0.length : Int)).f1).toList = a1_1.toList then ((dag_Check.f kj2 bt241.1).bind fun t246 => (if t246 = 0 then ((rectolaw31_four.f kj2).bind fun t247 => (some t247)) else (some false))) else (some false)) else (none)) else (none)) else (some false)) else ((rectolaw31_four.f kj2).bind fun t248 => (some t248))) else (some false))) = some r := H
     have A13 := Aside0.mk A130; clear A130; replace H := Option.bind_eq_some_iff.mp H; obtain ⟨⟨t241, t244⟩, A140, H⟩ := H
     replace H : (if t240 = t244 then (if t240 = 0 then (if (t241.length : Int) = (wrap64 ((l0.length : Int) + 1)) then (if 0 ≤ (l0.length : Int) then (if (l0.length : Int) < (t241.length : Int) then (if ((rd_T43 t241 (l0.length : Int)).f1).toList = a1_1.toList then ((dag_Check.f kj2 t241).bind fun t246 => (if t246 = 0 then ((rectolaw31_four.f kj2).bind fun t247 => (some t247)) else (some false))) else (some false)) else (none)) else (none)) else (some false)) else ((rectolaw31_four.f kj2).bind fun t248 => (some t248))) else (some false)) = some r := H
     have A14 := Aside0.mk A140; clear A140
     by_cases c15 : t240 = t244
     · rw [if_pos c15] at H
       have c15b0 : (t240 == t244) = true := beq_iff_eq.mpr c15; have c15b1 : (t240 != t244) = false := bne_eq_false_iff_eq.mpr c15; clear c15
       by_cases c16 : t240 = 0
       · rw [if_pos c16] at H
         have c16b0 : (t240 == 0) = true := beq_iff_eq.mpr c16; have c16b1 : (t240 != 0) = false := bne_eq_false_iff_eq.mpr c16; clear c16
         by_cases c17 : (t241.length : Int) = (wrap64 ((l0.length : Int) + 1))
         · rw [if_pos c17] at H
           have c17b0 : ((t241.length : Int) == (wrap64 ((l0.length : Int) + 1))) = true := beq_iff_eq.mpr c17; have c17b1 : ((t241.length : Int) != (wrap64 ((l0.length : Int) + 1))) = false := bne_eq_false_iff_eq.mpr c17; clear c17
           by_cases c18 : 0 ≤ (l0.length : Int)
           · rw [if_pos c18] at H
             have c18b0 : decide (0 ≤ (l0.length : Int)) = true := decide_eq_true c18; have c18b1 : decide (0 ≤ l0.length) = true := decide_eq_true (by omega); clear c18
             by_cases c19 : (l0.length : Int) < (t241.length : Int)
             · rw [if_pos c19] at H
               have c19b0 : decide ((l0.length : Int) < (t241.length : Int)) = true := decide_eq_true c19; have c19b1 : decide (l0.length < t241.length) = true := decide_eq_true (Int.ofNat_lt.mp c19); clear c19
               by_cases c20 : ((rd_T43 t241 (l0.length : Int)).f1).toList = a1_1.toList
               · rw [if_pos c20] at H
                 have c20b0 : (((rd_T43 t241 (l0.length : Int)).f1).toList == a1_1.toList) = true := beq_iff_eq.mpr c20; have c20b1 : (((rd_T43 t241 (l0.length : Int)).f1).toList != a1_1.toList) = false := bne_eq_false_iff_eq.mpr c20; clear c20; replace H := Option.bind_eq_some_iff.mp H; obtain ⟨t246, A210, H⟩ := H
                 replace H : (if t246 = 0 then ((rectolaw31_four.f kj2).bind fun t247 => (some t247)) else (some false)) = some r := H
                 have A21 := Aside0.mk A210; clear A210
                 by_cases c22 : t246 = 0
                 · rw [if_pos c22] at H
                   have c22b0 : (t246 == 0) = true := beq_iff_eq.mpr c22; have c22b1 : (t246 != 0) = false := bne_eq_false_iff_eq.mpr c22; clear c22; replace H := Option.bind_eq_some_iff.mp H; obtain ⟨t247, A230, H⟩ := H; replace H : (some t247) = some r := H; have A23 := Aside0.mk A230; clear A230; obtain rfl := Option.some.inj H; have hcz24_0 : wc.cell? ⟨gb234, 0, none⟩ = some (.int .i64 a1_0) := (blk_cell BK234.out 0).trans rfl; have hcz24_1 : wc.cell? ⟨gb234, 1, none⟩ = some (.string a1_1) := (blk_cell BK234.out 1).trans rfl; have hcz24_2 : wc.cell? ⟨gb234, 2, none⟩ = some (.int .i64 a1_2) := (blk_cell BK234.out 2).trans rfl; have hcz24_3 : wc.cell? ⟨gb234, 3, none⟩ = some (.slice A1_3 l1_3.length c1_3) := (blk_cell BK234.out 3).trans rfl; have hfz24_0 := blk_frozen BK234.out 0; have hfz24_1 := blk_frozen BK234.out 1; have hfz24_2 := blk_frozen BK234.out 2; have hfz24_3 := blk_frozen BK234.out 3
                   go_wp2_with (first | ((with_reducible refine gate_callee (f := 23) rfl ?_); refine goesL_ (some 23) rfl rfl Tryd.func23 (by kernel_rfl) rfl #[.slice A0 l0.length c0, .agg #[.int .i64 a1_0, .string a1_1, .int .i64 a1_2, .slice A1_3 l1_3.length c1_3]] rfl qD122 ?_; (with_reducible refine (dag_Add.own kj2 (fun k_ => k_ < w.heap.size) _ _ l0 a1_0 a1_1 a1_2 (fun k_ => k_ < w.heap.size) _ _ l1_3 t237 t240 _ ?side1 ?side2 A13.out ?side3).mono ?_); (case side1 => exact qD1210); (case side2 => exact qD129); (case side3 => exact qD128); rintro e w25 ⟨v238, rfl, ho0, hb, hx0⟩; refine ⟨_, rfl, ?_⟩; have HX0 := Aside0.mk (OwnTo.lower hx0 (below_size qD120)); clear hx0; have n0_ := Aside0.mk (Kd.N_lower (Kd.N_mono (ok' := fun k_ => k_ ≠ gb234) ho0 (fun k_ hk_ => Or.elim hk_ (fun hs_ => Or.elim hs_ (fun hs_ => fun e_ => Nat.not_le.2 hs_ qD127) (fun hs_ => fun e_ => Nat.not_le.2 hs_ qD127)) (fun hn_ => (Kd.freshB (g := gb234) (o := .cells #[.int .i64 a1_0, .string a1_1, .int .i64 a1_2, .slice A1_3 l1_3.length c1_3] 43 (0, 0)) qD121 k_ hn_)))) (below_size qD120)); have n1_ := Aside0.mk (blk_below (g := gb234) (o := .cells #[.int .i64 a1_0, .string a1_1, .int .i64 a1_2, .slice A1_3 l1_3.length c1_3] 43 (0, 0)) qD121 hb); have n2_ := Aside0.mk (below_step qD120 hb); clear BK234; clear HB; have HO239 := n0_; have BK234 := n1_; have HB := n2_; clear n0_ n1_ n2_; (try clear hb); (try clear hb2); (try clear hk); (try clear hi); (try clear ho0); obtain ⟨Ao26, co26, eo26⟩ := Kd.N_slice HO239.out; subst eo26; have hcz26_0 : w25.cell? ⟨gb234, 0, none⟩ = some (.int .i64 a1_0) := (blk_cell BK234.out 0).trans rfl; have hcz26_1 : w25.cell? ⟨gb234, 1, none⟩ = some (.string a1_1) := (blk_cell BK234.out 1).trans rfl; have hcz26_2 : w25.cell? ⟨gb234, 2, none⟩ = some (.int .i64 a1_2) := (blk_cell BK234.out 2).trans rfl; have hcz26_3 : w25.cell? ⟨gb234, 3, none⟩ = some (.slice A1_3 l1_3.length c1_3) := (blk_cell BK234.out 3).trans rfl; have hfz26_0 := blk_frozen BK234.out 0; have hfz26_1 := blk_frozen BK234.out 1; have hfz26_2 := blk_frozen BK234.out 2; have hfz26_3 := blk_frozen BK234.out 3))
                   have HX0m := Aside0.mk (mut_of HO239.out (fun k_ hk_ => hk_) HX0.out BK234.out)
                   have hbigN := Aside0.mk (Kd.N_reads' HO239.out).2.2.2.1; clear HO239 HX0
                   go_loopg [28, 7, 8] t237.length (fun gg_ s28_ _ _ wr => ∃ kk : Nat, kk ≤ t237.length ∧ t237.length - kk ≤ gg_ ∧ s28_ = .int .i64 kk ∧ Aside0 (Mut wr w.heap.size gb234 Ao26 t237.length) ∧ Aside0 (wr.heap[gb234]? = some (.cells #[.int .i64 a1_0, .string a1_1, .int .i64 a1_2, .slice A1_3 l1_3.length c1_3] 43 (0, 0))) ∧ Aside0 (Below w.heap.size w wr))
                   case atStart => exact ⟨0, Nat.zero_le _, by omega, rfl, HX0m, BK234, HB⟩
                   clear HX0m BK234 HB; obtain ⟨kk, hkk, hgg_, rfl, HM, BK234, HB⟩ := hrel
                   by_cases hlt_ : kk < t237.length
                   · have hltz : ((kk : Int) < (t237.length : Int)) := by omega
                     have p0_ : (0 : Int) ≤ (kk : Int) := by omega
                     have hbN_ := hbigN.out; obtain ⟨go, eA, hgb, hgg0, ⟨u1, hu1⟩, hf1, A', m, c', ys, h3, hR⟩ := HM.out kk hlt_; subst eA; have HM1 := Aside0.mk (HM.out.page (i := kk) (⟨#[122, 122]⟩ : ByteArray))
                     have h3' := far_cell (p := ⟨go, kk * 4 + 1, none⟩) (v := .string (⟨#[122, 122]⟩ : ByteArray)) h3 (fun z => by injection z with _ z _; omega)
                     have HR1 := Aside0.mk (Kd.R_far hR (p := ⟨go, kk * 4 + 1, none⟩) (fun k hk => hk.1) (.string (⟨#[122, 122]⟩ : ByteArray)))
                     have HB1 := Aside0.mk (HB.out.setCell (p := ⟨go, kk * 4 + 1, none⟩) hgb (.string (⟨#[122, 122]⟩ : ByteArray)))
                     have BK1 := Aside0.mk ((Below.heap_setCell wr ⟨go, kk * 4 + 1, none⟩ (.string (⟨#[122, 122]⟩ : ByteArray)) gb234 (fun z => hgg0 z.symm)).trans BK234.out)
                     obtain ⟨hm, hmc, _, hmb⟩ := Kd.R_reads' hR; clear hR
                     go_wp2
                     go_loopg [41, 8] m (fun gg_ s41_ _ wi => ∃ jj : Nat, jj ≤ m ∧ m - jj ≤ gg_ ∧ s41_ = .int .i64 jj ∧ Aside0 (Mut wi w.heap.size gb234 (some ⟨go, 0, none⟩) t237.length) ∧ Aside0 (wi.cell? ⟨go, kk * 4 + 3, none⟩ = some (.slice A' m c')) ∧ Aside0 (wi.heap[gb234]? = some (.cells #[.int .i64 a1_0, .string a1_1, .int .i64 a1_2, .slice A1_3 l1_3.length c1_3] 43 (0, 0))) ∧ Aside0 (Below w.heap.size w wi))
                     case atStart => exact ⟨0, Nat.zero_le _, by omega, rfl, HM1, ⟨h3'⟩, BK1, HB1⟩
                     case round =>
                      obtain ⟨jj, hjj, hgj, rfl, HMi, H3i, BKi, HBi⟩ := hrel
                      by_cases hlj : jj < m
                      · have hljz : ((jj : Int) < (m : Int)) := by omega
                        have p1_ : (0 : Int) ≤ (jj : Int) := by omega
                        obtain ⟨go', eA', _, _, _, _, A2, m2, c2, zs, h32, hR2⟩ := HMi.out kk hlt_
                        injection eA' with eA'
                        injection eA' with eA'
                        subst eA'; have h3i := H3i.out; have e32 := Option.some.inj (h3i.symm.trans h32)
                        injection e32 with ea em ec
                        subst ea em ec; obtain ⟨hzm, _, _, _⟩ := Kd.R_reads' hR2; obtain ⟨b, cb, eb, hbb, _⟩ := Kd.R_form hR2 (by omega)
                        injection eb with eb _ ecb
                        subst eb ecb; have hbgo := hR2.1 b rfl; obtain ⟨hcj, hfj⟩ := Kd.R_celln 0 hR2 (jj : Int) (by omega) (by omega); simp only [Int.toNat_natCast] at hcj hfj; have HM2 := Aside0.mk (HMi.out.par (b := b) (k := jj) hbgo.1 77)
                        have H32 := Aside0.mk (far_cell (p := ⟨b, jj, none⟩) (v := .int .i64 77) h3i (fun z => by injection z with z _ _; exact hbgo.1 z))
                        have HB2 := Aside0.mk (HBi.out.setCell (p := ⟨b, jj, none⟩) hbb (.int .i64 77))
                        have BK2 := Aside0.mk ((Below.heap_setCell wr ⟨b, jj, none⟩ (.int .i64 77) gb234 (fun z => hbgo.2 z.symm)).trans BKi.out)
                        clear hR2 h32
                        go_wp2
                        go_roundg (m - (jj + 1))
                        case measure => omega
                        case rel => exact ⟨jj + 1, by omega, by omega, congrArg (Value.int .i64) (by omega), HM2, H32, BK2, HB2⟩
                      · have hljz : ¬ ((jj : Int) < (m : Int)) := by omega
                        go_wp2
                        go_roundg (t237.length - (kk + 1))
                        case measure => omega
                        case rel => exact ⟨kk + 1, by omega, by omega, congrArg (Value.int .i64) (by omega), HMi, BKi, HBi⟩
                   have hltz : ¬ ((kk : Int) < (t237.length : Int)) := by omega
                   clear HM
                   obtain ⟨v238, HO239⟩ : ∃ v238 : Value, Aside0 (Kd.N k43 43 wr w.heap.size (fun k_ => k_ ≠ gb234) v238 []) := ⟨_, ⟨Kd.N_nil _ _ _ _ _⟩⟩
                   have hcy_0 : wr.cell? ⟨gb234, 0, none⟩ = some (.int .i64 a1_0) := (blk_cell BK234.out 0).trans rfl; have hcy_1 : wr.cell? ⟨gb234, 1, none⟩ = some (.string a1_1) := (blk_cell BK234.out 1).trans rfl; have hcy_2 : wr.cell? ⟨gb234, 2, none⟩ = some (.int .i64 a1_2) := (blk_cell BK234.out 2).trans rfl; have hcy_3 : wr.cell? ⟨gb234, 3, none⟩ = some (.slice A1_3 l1_3.length c1_3) := (blk_cell BK234.out 3).trans rfl
                   try go_wp2_with (first | ((with_reducible refine gate_callee (f := 23) rfl ?_); refine goesL_ (some 56) rfl rfl Tryd.func23 (by kernel_rfl) rfl #[.slice A0 l0.length c0, .agg #[.int .i64 a1_0, .string a1_1, .int .i64 a1_2, .slice A1_3 l1_3.length c1_3]] rfl qD122 ?_; (with_reducible refine (dag_Add.calls kj2 (fun k_ => k_ < w.heap.size) _ _ l0 a1_0 a1_1 a1_2 (fun k_ => k_ < w.heap.size) _ _ l1_3 t241 t244 _ ?side1 ?side2 A14.out ?side3).mono ?_); (case side1 => exact qD1210); (case side2 => exact qD129); (case side3 => exact qD128); rintro e w27 ⟨v242, rfl, ho0, hb⟩; refine ⟨_, rfl, ?_⟩; have n0_ := Aside0.mk (Kd.N_elder' (mND12 HO239.out) (Kd.N_base ho0) hb); have n1_ := Aside0.mk (Kd.N_lower (Kd.N_mono (ok' := fun k_ => some k_ ≠ (v238 : Value).ownBlock ∧ k_ ≠ gb234) ho0 (fun k_ hk_ => ⟨Or.elim hk_ (fun hs_ => Or.elim hs_ (fun hs_ => fun e_ => Nat.not_le.2 hs_ (Kd.N_base HO239.out k_ e_.symm)) (fun hs_ => fun e_ => Nat.not_le.2 hs_ (Kd.N_base HO239.out k_ e_.symm))) (fun hn_ => (Kd.fresh' (Kd.N_lt (mND12 HO239.out)) k_ hn_)), Or.elim hk_ (fun hs_ => Or.elim hs_ (fun hs_ => fun e_ => Nat.not_le.2 hs_ qD127) (fun hs_ => fun e_ => Nat.not_le.2 hs_ qD127)) (fun hn_ => (Kd.freshB (g := gb234) (o := .cells #[.int .i64 a1_0, .string a1_1, .int .i64 a1_2, .slice A1_3 l1_3.length c1_3] 43 (0, 0)) qD121 k_ hn_))⟩)) (below_size qD120)); have n2_ := Aside0.mk (blk_below (g := gb234) (o := .cells #[.int .i64 a1_0, .string a1_1, .int .i64 a1_2, .slice A1_3 l1_3.length c1_3] 43 (0, 0)) qD121 hb); have n3_ := Aside0.mk (below_step qD120 hb); clear HO239; clear BK234; clear HB; have HO239 := n0_; have HO243 := n1_; have BK234 := n2_; have HB := n3_; clear n0_ n1_ n2_ n3_; (try clear hb); (try clear hb2); (try clear hk); (try clear hi); (try clear ho0)))
                   have n0_ := Aside0.mk (Kd.N_drew HO239.out); have n1_ := Aside0.mk (Kd.N_drew HO243.out); have n2_ := Aside0.mk (blk_drew BK234.out); have n3_ := Aside0.mk (below_drew1 HB.out); clear HO239; clear HO243; clear BK234; clear HB; have HO239 := n0_; have HO243 := n1_; have BK234 := n2_; have HB := n3_; clear n0_ n1_ n2_ n3_; obtain ⟨Ao29, co29, eo29⟩ := Kd.N_slice HO243.out
                   (first | subst eo29 | (injection eo29 with f1_ f2_ f3_; have f4_ := f1_.symm; have f5_ := f3_.symm; clear f1_ f2_ f3_; subst f4_; subst f5_))
                   have p245 : 0 ≤ ((l0.length : Int) : Int) := of_decide_eq_true (by first | (with_reducible assumption) | assumption); have q245 : (l0.length : Int) < (t241.length : Int) := of_decide_eq_true (by first | (with_reducible assumption) | assumption); obtain ⟨ad245, A245_3, c245_3, e245, hx245_0, hx245_1, hx245_2, hx245_3, hl245_3, hi245_3⟩ := at_T43 (Kd.N_reads' HO243.out).2.2 (l0.length : Int) p245 q245; cases e245; obtain ⟨ce245, hce245, hMe245, hcc245⟩ := Kd.N_get HO243.out z43 (l0.length : Int) p245 (by first | exact q245 | exact of_decide_eq_true (by first | (with_reducible assumption) | assumption) | (have e_ := (Kd.N_reads' HO243.out).1; omega)); obtain ⟨ua245_3, uc245_3, rfl, ul245_3, ge245_3⟩ := k43_openF hMe245; have hv245_3 := hcc245 3 _ rfl
                   rw [add_field _ _ 3 (by omega)] at hv245_3
                   replace hv245_3 := Option.some.inj (hv245_3.symm.trans hx245_3)
                   injection hv245_3 with hva_ hvn_ hvc_
                   rw [hva_] at ge245_3
                   rw [hvc_] at ul245_3
                   have HL245_3 := Aside0.mk (show Kd.V (Kd.int .i64) 3 _ w.heap.size _ _ ((rd_T43 t241 (l0.length : Int)).f3) from Kd.V_mk ul245_3 ge245_3); clear hva_ hvn_ hvc_ ge245_3 ul245_3; clear hcc245 hce245; have HR245_3 := Aside0.mk hi245_3; have HC245_3 := Aside0.mk hl245_3; clear hi245_3 hl245_3
                   (try simp only [Go.IntWalk.toNatUp] at hx245_0)
                   (try simp only [Go.IntWalk.toNatUp] at hx245_1)
                   (try simp only [Go.IntWalk.toNatUp] at hx245_2)
                   (try simp only [Go.IntWalk.toNatUp] at hx245_3)
                   replace p245 := eq_true p245; replace q245 := eq_true q245
                   refine start_ (n := 35) (S := fun w' => w'.cell? ⟨gb234, 0, none⟩ = some (.int .i64 a1_0) ∧ w'.cell? ⟨gb234, 1, none⟩ = some (.string a1_1) ∧ w'.cell? ⟨gb234, 2, none⟩ = some (.int .i64 a1_2) ∧ w'.cell? ⟨gb234, 3, none⟩ = some (.slice A1_3 l1_3.length c1_3) ∧ w'.cell? (ad245.add (l0.length * 4)) = some (.int .i64 ((rd_T43 t241 (l0.length : Int)).f0)) ∧ w'.cell? ⟨(ad245.add (l0.length * 4)).block, (ad245.add (l0.length * 4)).off + 1, none⟩ = some (.string ((rd_T43 t241 (l0.length : Int)).f1)) ∧ w'.cell? ⟨(ad245.add (l0.length * 4)).block, (ad245.add (l0.length * 4)).off + 2, none⟩ = some (.int .i64 ((rd_T43 t241 (l0.length : Int)).f2)) ∧ w'.cell? ⟨(ad245.add (l0.length * 4)).block, (ad245.add (l0.length * 4)).off + 3, none⟩ = some (.slice A245_3 ((rd_T43 t241 (l0.length : Int)).f3).length c245_3)) (ds := []) bD120 (by kernel_rfl) rfl rfl ⟨(blk_cell BK234.out 0).trans rfl, (blk_cell BK234.out 1).trans rfl, (blk_cell BK234.out 2).trans rfl, (blk_cell BK234.out 3).trans rfl, hx245_0, hx245_1, hx245_2, hx245_3⟩ (fun hHeld => ?_); refine with_tabW rectolaw31_DagOwn.tab15 rectolaw31_DagOwn.bits15 (fun HT_ HW_ => ?_)
                   generalize w27.drew = w28 at HO239 HO243 BK234 HB HL245_3 HR245_3 hx245_0 hx245_1 hx245_2 hx245_3 hHeld ⊢
                   refine pure_ (i := 0) (N := some 59) (v := ?_) (a' := ?_) bD121 rfl rfl qaD12 (fun _ _ _ h => h) (Or.inl ⟨by rfl, ?_⟩) ?_ ?_
                   rotate_left
                   · intro w'
                     go_simp
                     with_reducible rfl
                   rotate_left
                   · exact qsD120
                   refine pure_ (i := 1) (N := some 60) (v := ?_) (a' := ?_) bD122 rfl rfl qaD12 (fun _ _ _ h => h) (Or.inl ⟨by rfl, ?_⟩) ?_ ?_
                   rotate_left
                   · intro w'
                     go_simp
                     with_reducible rfl
                   rotate_left
                   · exact qsD120
                   refine pure_ (i := 2) (N := some 61) (v := ?_) (a' := ?_) bD123 rfl rfl qaD12 (fun _ _ _ h => h) (Or.inl ⟨by rfl, ?_⟩) ?_ ?_
                   rotate_left
                   · intro w'
                     go_simp
                     with_reducible rfl
                   rotate_left
                   · exact qsD120
                   refine pure_ (i := 3) (N := some 62) (v := ?_) (a' := ?_) bD124 rfl rfl qaD12 (fun _ _ _ h => h) (Or.inl ⟨by rfl, ?_⟩) ?_ ?_
                   rotate_left
                   · intro w'
                     go_simp
                     with_reducible rfl
                   rotate_left
                   · exact qsD120
                   refine pure_ (i := 4) (N := some 63) (v := ?_) (a' := ?_) bD125 rfl rfl qaD12 (fun _ _ _ h => h) (Or.inl ⟨by rfl, ?_⟩) ?_ ?_
                   rotate_left
                   · intro w'
                     go_simp
                     with_reducible rfl
                   rotate_left
                   · exact qsD120
                   refine pure_ (i := 5) (N := some 64) (v := ?_) (a' := ?_) bD126 rfl rfl qaD12 (fun _ _ _ h => h) (Or.inl ⟨by rfl, ?_⟩) ?_ ?_
                   rotate_left
                   · intro w'
                     go_simp
                     with_reducible rfl
                   rotate_left
                   · exact qsD120
                   refine pure_ (i := 6) (N := some 65) (v := ?_) (a' := ?_) bD127 rfl rfl qaD12 (fun _ _ _ h => h) (Or.inl ⟨by rfl, ?_⟩) ?_ ?_
                   rotate_left
                   · intro w'
                     go_simp
                     with_reducible rfl
                   rotate_left
                   · exact qsD120
                   refine pure_ (i := 7) (N := some 66) (v := ?_) (a' := ?_) bD128 rfl rfl qaD12 (fun _ _ _ h => h) (Or.inl ⟨by rfl, ?_⟩) ?_ ?_
                   rotate_left
                   · intro w'
                     go_simp
                     with_reducible rfl
                   rotate_left
                   · exact qsD120
                   refine pure_ (i := 8) (N := some 67) (v := ?_) (a' := ?_) bD129 rfl rfl qaD12 (fun _ _ _ h => h) (Or.inl ⟨by rfl, ?_⟩) ?_ ?_
                   rotate_left
                   · intro w'
                     go_simp
                     with_reducible rfl
                   rotate_left
                   · exact qsD120
                   refine pure_ (i := 9) (N := some 68) (v := ?_) (a' := ?_) bD1210 rfl rfl qaD12 (fun _ _ _ h => h) (Or.inl ⟨by rfl, ?_⟩) ?_ ?_
                   rotate_left
                   · intro w'
                     go_simp
                     with_reducible rfl
                   rotate_left
                   · exact qsD120
                   refine pure_ (i := 10) (N := some 69) (v := ?_) (a' := ?_) bD1211 rfl rfl qaD12 (fun _ _ _ h => h) (Or.inl ⟨by rfl, ?_⟩) ?_ ?_
                   rotate_left
                   · intro w'
                     go_simp
                     with_reducible rfl
                   rotate_left
                   · exact qsD120
                   refine pure_ (i := 11) (N := some 70) (v := ?_) (a' := ?_) bD1212 rfl rfl qaD12 (fun _ _ _ h => h) (Or.inl ⟨by rfl, ?_⟩) ?_ ?_
                   rotate_left
                   · intro w'
                     go_simp
                     with_reducible rfl
                   rotate_left
                   · exact qsD120
                   refine pure_ (i := 12) (N := some 71) (v := ?_) (a' := ?_) bD1213 rfl rfl qaD12 (fun _ _ _ h => h) (Or.inl ⟨by rfl, ?_⟩) ?_ ?_
                   rotate_left
                   · intro w'
                     go_simp
                     with_reducible rfl
                   rotate_left
                   · exact qsD120
                   refine pure_ (i := 13) (N := some 72) (v := ?_) (a' := ?_) bD1214 rfl rfl qaD12 (fun _ _ _ h => h) (Or.inl ⟨by rfl, ?_⟩) ?_ ?_
                   rotate_left
                   · intro w'
                     go_simp
                     with_reducible rfl
                   rotate_left
                   · exact qsD120
                   refine pure_ (i := 14) (N := some 73) (v := ?_) (a' := ?_) bD1215 rfl rfl qaD12 (fun _ _ _ h => h) (Or.inl ⟨by rfl, ?_⟩) ?_ ?_
                   rotate_left
                   · intro w'
                     go_simp
                     with_reducible rfl
                   rotate_left
                   · exact qsD120
                   refine pure_ (i := 15) (N := some 74) (v := ?_) (a' := ?_) bD1216 rfl rfl qaD12 (fun _ _ _ h => h) (Or.inl ⟨by rfl, ?_⟩) ?_ ?_
                   rotate_left
                   · intro w'
                     go_simp
                     with_reducible rfl
                   rotate_left
                   · exact qsD120
                   refine pure_ (i := 16) (N := some 75) (v := ?_) (a' := ?_) bD1217 rfl rfl qaD12 (fun _ _ _ h => h) (Or.inl ⟨by rfl, ?_⟩) ?_ ?_
                   rotate_left
                   · intro w'
                     go_simp
                     with_reducible rfl
                   rotate_left
                   · exact qsD120
                   refine pure_ (i := 17) (N := some 76) (v := ?_) (a' := ?_) bD1218 rfl rfl qaD12 (fun _ _ _ h => h) (Or.inl ⟨by rfl, ?_⟩) ?_ ?_
                   rotate_left
                   · intro w'
                     go_simp
                     with_reducible rfl
                   rotate_left
                   · exact qsD120
                   refine pure_ (i := 18) (N := some 77) (v := ?_) (a' := ?_) bD1219 rfl rfl qaD12 (fun _ _ _ h => h) (Or.inl ⟨by rfl, ?_⟩) ?_ ?_
                   rotate_left
                   · intro w'
                     go_simp
                     with_reducible rfl
                   rotate_left
                   · exact qsD120
                   refine pure_ (i := 20) (N := some 79) (v := ?_) (a' := ?_) #[true, true, true, true, true, true, true, true, true, true, true, true, true, true, true, true, true, true, true, false, true, false, false, false, false, false, false, false, false, false, false, false, false, false, false] rfl rfl qaD12 (fun _ _ _ h => h) (Or.inl ⟨by rfl, ?_⟩) ?_ ?_
                   rotate_left
                   · intro w'
                     go_simp
                     with_reducible rfl
                   rotate_left
                   · exact qsD120
                   refine take_ (i := 19) (N := some 78) (v := ?_) (a' := ?_) bD1220 rfl rfl (take_ofW HT_.out HW_.out (by kernel_rfl)) (fun _ _ _ h => h) (Or.inl ⟨by rfl, ?_⟩) hHeld ?_ ?_
                   rotate_left
                   · rintro w' ⟨s0, s1, s2, s3, s4, s5, s6, s7⟩
                     go_simp
                     with_reducible rfl
                   rotate_left
                   · exact qsD120
                   refine take_ (i := 21) (N := some 80) (v := ?_) (a' := ?_) bD1221 rfl rfl (take_ofW HT_.out HW_.out (by kernel_rfl)) (fun _ _ _ h => h) (Or.inl ⟨by rfl, ?_⟩) hHeld ?_ ?_
                   rotate_left
                   · rintro w' ⟨s0, s1, s2, s3, s4, s5, s6, s7⟩
                     go_simp
                     with_reducible rfl
                   rotate_left
                   · exact qsD120
                   refine pure_ (i := 22) (N := some 81) (v := ?_) (a' := ?_) bD1222 rfl rfl qaD12 (fun _ _ _ h => h) (Or.inl ⟨by rfl, ?_⟩) ?_ ?_
                   rotate_left
                   · intro w'
                     go_simp
                     with_reducible rfl
                   rotate_left
                   · exact qsD120
                   refine pure_ (i := 23) (N := some 82) (v := ?_) (a' := ?_) bD1223 rfl rfl qaD12 (fun _ _ _ h => h) (Or.inl ⟨by rfl, ?_⟩) ?_ ?_
                   rotate_left
                   · intro w'
                     go_simp
                     with_reducible rfl
                   rotate_left
                   · exact qsD120
                   refine pure_ (i := 24) (N := some 83) (v := ?_) (a' := ?_) bD1224 rfl rfl qaD12 (fun _ _ _ h => h) (Or.inl ⟨by rfl, ?_⟩) ?_ ?_
                   rotate_left
                   · intro w'
                     go_simp
                     with_reducible rfl
                   rotate_left
                   · exact qsD120
                   refine pure_ (i := 25) (N := some 84) (v := ?_) (a' := ?_) bD1225 rfl rfl qaD12 (fun _ _ _ h => h) (Or.inl ⟨by rfl, ?_⟩) ?_ ?_
                   rotate_left
                   · intro w'
                     go_simp
                     with_reducible rfl
                   rotate_left
                   · exact qsD120
                   refine one_ (i := 26) (N := some 85) bD1226 rfl rfl (one_of HT_.out (by kernel_rfl)) (by decide) (fun K hK => ?_)
                   refine goes_ Tryd.func21 (by kernel_rfl) rfl #[.slice (some ad245) t241.length co29] (by rfl) rfl rfl qD122 ?_
                   with_reducible refine (dag_Check.calls kj2 _ _ t241 t246 _ ?side1 ?side2 A21.out ?side3).mono ?_
                   (case side1 => repeat (first | exact (Kd.N_reads' HO243.out).2.2 | (with_reducible refine Kd.C_alloc ?_ _) | (with_reducible refine Kd.C_drewN ?_ _) | (with_reducible refine Kd.C_drew ?_)))
                   (case side2 => exact (Kd.N_reads' HO243.out).2.1)
                   (case side3 => exact qD128)
                   rintro e w30 ⟨rfl, hb⟩
                   have HS4_ := (hb.cell (World.block_lt_of_cell? _ _ (hHeld.2.2.2.2.1))).trans (hHeld.2.2.2.2.1); have HS5_ := (hb.cell (World.block_lt_of_cell? _ _ (hHeld.2.2.2.2.2.1))).trans (hHeld.2.2.2.2.2.1); have HS6_ := (hb.cell (World.block_lt_of_cell? _ _ (hHeld.2.2.2.2.2.2.1))).trans (hHeld.2.2.2.2.2.2.1); have HS7_ := (hb.cell (World.block_lt_of_cell? _ _ (hHeld.2.2.2.2.2.2.2))).trans (hHeld.2.2.2.2.2.2.2)
                   refine ⟨_, rfl, ?_⟩
                   have n0_ := Aside0.mk (Kd.N_below (mND12 HO239.out) hb); have n1_ := Aside0.mk (Kd.N_below (mND12 HO243.out) hb); have n2_ := Aside0.mk (Kd.V_below (by (with_reducible repeat (first | apply Kd.V_alloc | apply Kd.V_drewN | apply Kd.V_drew)); exact HL245_3.out) hb); have n3_ := Aside0.mk (blk_below (g := gb234) (o := .cells #[.int .i64 a1_0, .string a1_1, .int .i64 a1_2, .slice A1_3 l1_3.length c1_3] 43 (0, 0)) qD121 hb); have n4_ := Aside0.mk (Kd.C_below qD124 hb); have n5_ := Aside0.mk (below_step qD120 hb); clear HO239; clear HO243; clear HL245_3; clear BK234; clear HR245_3; clear HB; have HO239 := n0_; have HO243 := n1_; have HL245_3 := n2_; have BK234 := n3_; have HR245_3 := n4_; have HB := n5_; clear n0_ n1_ n2_ n3_ n4_ n5_
                   (try clear hb)
                   (try clear hb2)
                   (try clear hk)
                   (try clear hi)
                   refine hK.out _ _ ⟨(blk_cell BK234.out 0).trans rfl, (blk_cell BK234.out 1).trans rfl, (blk_cell BK234.out 2).trans rfl, (blk_cell BK234.out 3).trans rfl, HS4_, HS5_, HS6_, HS7_⟩ (fun hHeld => ?_)
                   clear hK K
                   refine norm_ (a' := ?_) ?_ ?_
                   rotate_left
                   · show Act.put _ (some 85) _ = _
                     simp only [Act.put, List.setIfInBounds_toArray, List.set_cons_zero, List.set_cons_succ, i64_w, i32_w]
                     rfl
                   refine pure_ (i := 27) (N := some 86) (v := ?_) (a' := ?_) bD1227 rfl rfl qaD12 (fun _ _ _ h => h) (Or.inl ⟨by rfl, ?_⟩) ?_ ?_
                   rotate_left
                   · intro w'
                     go_simp
                     with_reducible rfl
                   rotate_left
                   · exact qsD120
                   refine pure_ (i := 28) (N := some 87) (v := ?_) (a' := ?_) bD1228 rfl rfl qaD12 (fun _ _ _ h => h) (Or.inl ⟨by rfl, ?_⟩) ?_ ?_
                   rotate_left
                   · intro w'
                     go_simp
                     with_reducible rfl
                   rotate_left
                   · exact qsD120
                   refine pure_ (i := 29) (N := some 88) (v := ?_) (a' := ?_) bD1229 rfl rfl qaD12 (fun _ _ _ h => h) (Or.inl ⟨by rfl, ?_⟩) ?_ ?_
                   rotate_left
                   · intro w'
                     go_simp
                     with_reducible rfl
                   rotate_left
                   · exact qsD120
                   refine pure_ (i := 30) (N := some 89) (v := ?_) (a' := ?_) bD1230 rfl rfl qaD12 (fun _ _ _ h => h) (Or.inl ⟨by rfl, ?_⟩) ?_ ?_
                   rotate_left
                   · intro w'
                     go_simp
                     with_reducible rfl
                   rotate_left
                   · exact qsD120
                   refine pure_ (i := 31) (N := some 90) (v := ?_) (a' := ?_) bD1231 rfl rfl qaD12 (fun _ _ _ h => h) (Or.inl ⟨by rfl, ?_⟩) ?_ ?_
                   rotate_left
                   · intro w'
                     go_simp
                     with_reducible rfl
                   rotate_left
                   · exact qsD120
                   refine one_ (i := 32) (N := some 91) bD1232 rfl rfl (one_of HT_.out (by kernel_rfl)) (by decide) (fun K hK => ?_)
                   refine goes_ Tryd.func8 (by kernel_rfl) rfl #[] (by rfl) rfl rfl qD122 ?_
                   with_reducible refine (rectolaw31_four.calls kj2  t247 _ A23.out ?side1).mono ?_
                   (case side1 => exact qD128)
                   rintro e w31 ⟨rfl, hb⟩
                   have HS4_ := (hb.cell (World.block_lt_of_cell? _ _ (hHeld.2.2.2.2.1))).trans (hHeld.2.2.2.2.1); have HS5_ := (hb.cell (World.block_lt_of_cell? _ _ (hHeld.2.2.2.2.2.1))).trans (hHeld.2.2.2.2.2.1); have HS6_ := (hb.cell (World.block_lt_of_cell? _ _ (hHeld.2.2.2.2.2.2.1))).trans (hHeld.2.2.2.2.2.2.1); have HS7_ := (hb.cell (World.block_lt_of_cell? _ _ (hHeld.2.2.2.2.2.2.2))).trans (hHeld.2.2.2.2.2.2.2)
                   refine ⟨_, rfl, ?_⟩
                   have n0_ := Aside0.mk (Kd.N_below (mND12 HO239.out) hb); have n1_ := Aside0.mk (Kd.N_below (mND12 HO243.out) hb); have n2_ := Aside0.mk (Kd.V_below (by (with_reducible repeat (first | apply Kd.V_alloc | apply Kd.V_drewN | apply Kd.V_drew)); exact HL245_3.out) hb); have n3_ := Aside0.mk (blk_below (g := gb234) (o := .cells #[.int .i64 a1_0, .string a1_1, .int .i64 a1_2, .slice A1_3 l1_3.length c1_3] 43 (0, 0)) qD121 hb); have n4_ := Aside0.mk (Kd.C_below qD124 hb); have n5_ := Aside0.mk (below_step qD120 hb); clear HO239; clear HO243; clear HL245_3; clear BK234; clear HR245_3; clear HB; have HO239 := n0_; have HO243 := n1_; have HL245_3 := n2_; have BK234 := n3_; have HR245_3 := n4_; have HB := n5_; clear n0_ n1_ n2_ n3_ n4_ n5_
                   (try clear hb)
                   (try clear hb2)
                   (try clear hk)
                   (try clear hi)
                   refine hK.out _ _ ⟨(blk_cell BK234.out 0).trans rfl, (blk_cell BK234.out 1).trans rfl, (blk_cell BK234.out 2).trans rfl, (blk_cell BK234.out 3).trans rfl, HS4_, HS5_, HS6_, HS7_⟩ (fun hHeld => ?_)
                   clear hK K
                   refine norm_ (a' := ?_) ?_ ?_
                   rotate_left
                   · show Act.put _ (some 91) _ = _
                     simp only [Act.put, List.setIfInBounds_toArray, List.set_cons_zero, List.set_cons_succ, i64_w, i32_w]
                     rfl
                   refine pure_ (i := 33) (N := some 92) (v := ?_) (a' := ?_) bD1233 rfl rfl qaD12 (fun _ _ _ h => h) (Or.inl ⟨by rfl, ?_⟩) ?_ ?_
                   rotate_left
                   · intro w'
                     go_simp
                     with_reducible rfl
                   rotate_left
                   · exact qsD120
                   refine pure_ (i := 34) (N := some 4) (v := ?_) (a' := ?_) bD1234 rfl rfl qaD12 (fun _ _ _ h => h) (Or.inl ⟨by rfl, ?_⟩) ?_ ?_
                   rotate_left
                   · intro w'
                     go_simp
                     with_reducible rfl
                   rotate_left
                   · exact qsD120
                   refine done_ (done_of HT_.out (by kernel_rfl)) ?_
                   try go_wp2
                   go_ret
                   exact ⟨qD126, qD120⟩
                 · rw [if_neg c22] at H
                   have c22b0 : (t246 == 0) = false := beq_eq_false_iff_ne.mpr c22; have c22b1 : (t246 != 0) = true := bne_iff_ne.mpr c22
                   exact absurd ((Option.some.inj H).trans hr_.out) (by decide)
               · rw [if_neg c20] at H
                 have c20b0 : (((rd_T43 t241 (l0.length : Int)).f1).toList == a1_1.toList) = false := beq_eq_false_iff_ne.mpr c20; have c20b1 : (((rd_T43 t241 (l0.length : Int)).f1).toList != a1_1.toList) = true := bne_iff_ne.mpr c20
                 exact absurd ((Option.some.inj H).trans hr_.out) (by decide)
             · rw [if_neg c19] at H
               exact absurd H (by simp)
           · rw [if_neg c18] at H
             exact absurd H (by simp)
         · rw [if_neg c17] at H
           have c17b0 : ((t241.length : Int) == (wrap64 ((l0.length : Int) + 1))) = false := beq_eq_false_iff_ne.mpr c17; have c17b1 : ((t241.length : Int) != (wrap64 ((l0.length : Int) + 1))) = true := bne_iff_ne.mpr c17
           exact absurd ((Option.some.inj H).trans hr_.out) (by decide)
       · rw [if_neg c16] at H
         have c16b0 : (t240 == 0) = false := beq_eq_false_iff_ne.mpr c16; have c16b1 : (t240 != 0) = true := bne_iff_ne.mpr c16; replace H := Option.bind_eq_some_iff.mp H; obtain ⟨t248, A510, H⟩ := H; replace H : (some t248) = some r := H; have A51 := Aside0.mk A510; clear A510; obtain rfl := Option.some.inj H; have hcz52_0 : wc.cell? ⟨gb234, 0, none⟩ = some (.int .i64 a1_0) := (blk_cell BK234.out 0).trans rfl; have hcz52_1 : wc.cell? ⟨gb234, 1, none⟩ = some (.string a1_1) := (blk_cell BK234.out 1).trans rfl; have hcz52_2 : wc.cell? ⟨gb234, 2, none⟩ = some (.int .i64 a1_2) := (blk_cell BK234.out 2).trans rfl; have hcz52_3 : wc.cell? ⟨gb234, 3, none⟩ = some (.slice A1_3 l1_3.length c1_3) := (blk_cell BK234.out 3).trans rfl; have hfz52_0 := blk_frozen BK234.out 0; have hfz52_1 := blk_frozen BK234.out 1; have hfz52_2 := blk_frozen BK234.out 2; have hfz52_3 := blk_frozen BK234.out 3
         go_wp2_with (first | ((with_reducible refine gate_callee (f := 23) rfl ?_); refine goesL_ (some 23) rfl rfl Tryd.func23 (by kernel_rfl) rfl #[.slice A0 l0.length c0, .agg #[.int .i64 a1_0, .string a1_1, .int .i64 a1_2, .slice A1_3 l1_3.length c1_3]] rfl qD122 ?_; (with_reducible refine (dag_Add.own kj2 (fun k_ => k_ < w.heap.size) _ _ l0 a1_0 a1_1 a1_2 (fun k_ => k_ < w.heap.size) _ _ l1_3 t237 t240 _ ?side1 ?side2 A13.out ?side3).mono ?_); (case side1 => exact qD1210); (case side2 => exact qD129); (case side3 => exact qD128); rintro e w53 ⟨v238, rfl, ho0, hb, hx0⟩; refine ⟨_, rfl, ?_⟩; have HX0 := Aside0.mk (OwnTo.lower hx0 (below_size qD120)); clear hx0; have n0_ := Aside0.mk (Kd.N_lower (Kd.N_mono (ok' := fun k_ => k_ ≠ gb234) ho0 (fun k_ hk_ => Or.elim hk_ (fun hs_ => Or.elim hs_ (fun hs_ => fun e_ => Nat.not_le.2 hs_ qD127) (fun hs_ => fun e_ => Nat.not_le.2 hs_ qD127)) (fun hn_ => (Kd.freshB (g := gb234) (o := .cells #[.int .i64 a1_0, .string a1_1, .int .i64 a1_2, .slice A1_3 l1_3.length c1_3] 43 (0, 0)) qD121 k_ hn_)))) (below_size qD120)); have n1_ := Aside0.mk (blk_below (g := gb234) (o := .cells #[.int .i64 a1_0, .string a1_1, .int .i64 a1_2, .slice A1_3 l1_3.length c1_3] 43 (0, 0)) qD121 hb); have n2_ := Aside0.mk (below_step qD120 hb); clear BK234; clear HB; have HO239 := n0_; have BK234 := n1_; have HB := n2_; clear n0_ n1_ n2_; (try clear hb); (try clear hb2); (try clear hk); (try clear hi); (try clear ho0); obtain ⟨Ao26, co26, eo26⟩ := Kd.N_slice HO239.out; subst eo26; have hcz54_0 : w53.cell? ⟨gb234, 0, none⟩ = some (.int .i64 a1_0) := (blk_cell BK234.out 0).trans rfl; have hcz54_1 : w53.cell? ⟨gb234, 1, none⟩ = some (.string a1_1) := (blk_cell BK234.out 1).trans rfl; have hcz54_2 : w53.cell? ⟨gb234, 2, none⟩ = some (.int .i64 a1_2) := (blk_cell BK234.out 2).trans rfl; have hcz54_3 : w53.cell? ⟨gb234, 3, none⟩ = some (.slice A1_3 l1_3.length c1_3) := (blk_cell BK234.out 3).trans rfl; have hfz54_0 := blk_frozen BK234.out 0; have hfz54_1 := blk_frozen BK234.out 1; have hfz54_2 := blk_frozen BK234.out 2; have hfz54_3 := blk_frozen BK234.out 3))
         have HX0m := Aside0.mk (mut_of HO239.out (fun k_ hk_ => hk_) HX0.out BK234.out)
         have hbigN := Aside0.mk (Kd.N_reads' HO239.out).2.2.2.1; clear HO239 HX0
         go_loopg [28, 7, 8] t237.length (fun gg_ s28_ _ _ wr => ∃ kk : Nat, kk ≤ t237.length ∧ t237.length - kk ≤ gg_ ∧ s28_ = .int .i64 kk ∧ Aside0 (Mut wr w.heap.size gb234 Ao26 t237.length) ∧ Aside0 (wr.heap[gb234]? = some (.cells #[.int .i64 a1_0, .string a1_1, .int .i64 a1_2, .slice A1_3 l1_3.length c1_3] 43 (0, 0))) ∧ Aside0 (Below w.heap.size w wr))
         case atStart => exact ⟨0, Nat.zero_le _, by omega, rfl, HX0m, BK234, HB⟩
         clear HX0m BK234 HB; obtain ⟨kk, hkk, hgg_, rfl, HM, BK234, HB⟩ := hrel
         by_cases hlt_ : kk < t237.length
         · have hltz : ((kk : Int) < (t237.length : Int)) := by omega
           have p0_ : (0 : Int) ≤ (kk : Int) := by omega
           have hbN_ := hbigN.out; obtain ⟨go, eA, hgb, hgg0, ⟨u1, hu1⟩, hf1, A', m, c', ys, h3, hR⟩ := HM.out kk hlt_; subst eA; have HM1 := Aside0.mk (HM.out.page (i := kk) (⟨#[122, 122]⟩ : ByteArray))
           have h3' := far_cell (p := ⟨go, kk * 4 + 1, none⟩) (v := .string (⟨#[122, 122]⟩ : ByteArray)) h3 (fun z => by injection z with _ z _; omega)
           have HR1 := Aside0.mk (Kd.R_far hR (p := ⟨go, kk * 4 + 1, none⟩) (fun k hk => hk.1) (.string (⟨#[122, 122]⟩ : ByteArray)))
           have HB1 := Aside0.mk (HB.out.setCell (p := ⟨go, kk * 4 + 1, none⟩) hgb (.string (⟨#[122, 122]⟩ : ByteArray)))
           have BK1 := Aside0.mk ((Below.heap_setCell wr ⟨go, kk * 4 + 1, none⟩ (.string (⟨#[122, 122]⟩ : ByteArray)) gb234 (fun z => hgg0 z.symm)).trans BK234.out)
           obtain ⟨hm, hmc, _, hmb⟩ := Kd.R_reads' hR; clear hR
           go_wp2
           go_loopg [41, 8] m (fun gg_ s41_ _ wi => ∃ jj : Nat, jj ≤ m ∧ m - jj ≤ gg_ ∧ s41_ = .int .i64 jj ∧ Aside0 (Mut wi w.heap.size gb234 (some ⟨go, 0, none⟩) t237.length) ∧ Aside0 (wi.cell? ⟨go, kk * 4 + 3, none⟩ = some (.slice A' m c')) ∧ Aside0 (wi.heap[gb234]? = some (.cells #[.int .i64 a1_0, .string a1_1, .int .i64 a1_2, .slice A1_3 l1_3.length c1_3] 43 (0, 0))) ∧ Aside0 (Below w.heap.size w wi))
           case atStart => exact ⟨0, Nat.zero_le _, by omega, rfl, HM1, ⟨h3'⟩, BK1, HB1⟩
           case round =>
            obtain ⟨jj, hjj, hgj, rfl, HMi, H3i, BKi, HBi⟩ := hrel
            by_cases hlj : jj < m
            · have hljz : ((jj : Int) < (m : Int)) := by omega
              have p1_ : (0 : Int) ≤ (jj : Int) := by omega
              obtain ⟨go', eA', _, _, _, _, A2, m2, c2, zs, h32, hR2⟩ := HMi.out kk hlt_
              injection eA' with eA'
              injection eA' with eA'
              subst eA'; have h3i := H3i.out; have e32 := Option.some.inj (h3i.symm.trans h32)
              injection e32 with ea em ec
              subst ea em ec; obtain ⟨hzm, _, _, _⟩ := Kd.R_reads' hR2; obtain ⟨b, cb, eb, hbb, _⟩ := Kd.R_form hR2 (by omega)
              injection eb with eb _ ecb
              subst eb ecb; have hbgo := hR2.1 b rfl; obtain ⟨hcj, hfj⟩ := Kd.R_celln 0 hR2 (jj : Int) (by omega) (by omega); simp only [Int.toNat_natCast] at hcj hfj; have HM2 := Aside0.mk (HMi.out.par (b := b) (k := jj) hbgo.1 77)
              have H32 := Aside0.mk (far_cell (p := ⟨b, jj, none⟩) (v := .int .i64 77) h3i (fun z => by injection z with z _ _; exact hbgo.1 z))
              have HB2 := Aside0.mk (HBi.out.setCell (p := ⟨b, jj, none⟩) hbb (.int .i64 77))
              have BK2 := Aside0.mk ((Below.heap_setCell wr ⟨b, jj, none⟩ (.int .i64 77) gb234 (fun z => hbgo.2 z.symm)).trans BKi.out)
              clear hR2 h32
              go_wp2
              go_roundg (m - (jj + 1))
              case measure => omega
              case rel => exact ⟨jj + 1, by omega, by omega, congrArg (Value.int .i64) (by omega), HM2, H32, BK2, HB2⟩
            · have hljz : ¬ ((jj : Int) < (m : Int)) := by omega
              go_wp2
              go_roundg (t237.length - (kk + 1))
              case measure => omega
              case rel => exact ⟨kk + 1, by omega, by omega, congrArg (Value.int .i64) (by omega), HMi, BKi, HBi⟩
         have hltz : ¬ ((kk : Int) < (t237.length : Int)) := by omega
         clear HM
         obtain ⟨v238, HO239⟩ : ∃ v238 : Value, Aside0 (Kd.N k43 43 wr w.heap.size (fun k_ => k_ ≠ gb234) v238 []) := ⟨_, ⟨Kd.N_nil _ _ _ _ _⟩⟩
         have hcy_0 : wr.cell? ⟨gb234, 0, none⟩ = some (.int .i64 a1_0) := (blk_cell BK234.out 0).trans rfl; have hcy_1 : wr.cell? ⟨gb234, 1, none⟩ = some (.string a1_1) := (blk_cell BK234.out 1).trans rfl; have hcy_2 : wr.cell? ⟨gb234, 2, none⟩ = some (.int .i64 a1_2) := (blk_cell BK234.out 2).trans rfl; have hcy_3 : wr.cell? ⟨gb234, 3, none⟩ = some (.slice A1_3 l1_3.length c1_3) := (blk_cell BK234.out 3).trans rfl
         try go_wp2_with (first | ((with_reducible refine gate_callee (f := 23) rfl ?_); refine goesL_ (some 56) rfl rfl Tryd.func23 (by kernel_rfl) rfl #[.slice A0 l0.length c0, .agg #[.int .i64 a1_0, .string a1_1, .int .i64 a1_2, .slice A1_3 l1_3.length c1_3]] rfl qD122 ?_; (with_reducible refine (dag_Add.calls kj2 (fun k_ => k_ < w.heap.size) _ _ l0 a1_0 a1_1 a1_2 (fun k_ => k_ < w.heap.size) _ _ l1_3 t241 t244 _ ?side1 ?side2 A14.out ?side3).mono ?_); (case side1 => exact qD1210); (case side2 => exact qD129); (case side3 => exact qD128); rintro e w55 ⟨v242, rfl, ho0, hb⟩; refine ⟨_, rfl, ?_⟩; have n0_ := Aside0.mk (Kd.N_elder' (mND12 HO239.out) (Kd.N_base ho0) hb); have n1_ := Aside0.mk (Kd.N_lower (Kd.N_mono (ok' := fun k_ => some k_ ≠ (v238 : Value).ownBlock ∧ k_ ≠ gb234) ho0 (fun k_ hk_ => ⟨Or.elim hk_ (fun hs_ => Or.elim hs_ (fun hs_ => fun e_ => Nat.not_le.2 hs_ (Kd.N_base HO239.out k_ e_.symm)) (fun hs_ => fun e_ => Nat.not_le.2 hs_ (Kd.N_base HO239.out k_ e_.symm))) (fun hn_ => (Kd.fresh' (Kd.N_lt (mND12 HO239.out)) k_ hn_)), Or.elim hk_ (fun hs_ => Or.elim hs_ (fun hs_ => fun e_ => Nat.not_le.2 hs_ qD127) (fun hs_ => fun e_ => Nat.not_le.2 hs_ qD127)) (fun hn_ => (Kd.freshB (g := gb234) (o := .cells #[.int .i64 a1_0, .string a1_1, .int .i64 a1_2, .slice A1_3 l1_3.length c1_3] 43 (0, 0)) qD121 k_ hn_))⟩)) (below_size qD120)); have n2_ := Aside0.mk (blk_below (g := gb234) (o := .cells #[.int .i64 a1_0, .string a1_1, .int .i64 a1_2, .slice A1_3 l1_3.length c1_3] 43 (0, 0)) qD121 hb); have n3_ := Aside0.mk (below_step qD120 hb); clear HO239; clear BK234; clear HB; have HO239 := n0_; have HO243 := n1_; have BK234 := n2_; have HB := n3_; clear n0_ n1_ n2_ n3_; (try clear hb); (try clear hb2); (try clear hk); (try clear hi); (try clear ho0)))
         have n0_ := Aside0.mk (Kd.N_drew HO239.out); have n1_ := Aside0.mk (Kd.N_drew HO243.out); have n2_ := Aside0.mk (blk_drew BK234.out); have n3_ := Aside0.mk (below_drew1 HB.out); clear HO239; clear HO243; clear BK234; clear HB; have HO239 := n0_; have HO243 := n1_; have BK234 := n2_; have HB := n3_; clear n0_ n1_ n2_ n3_
         refine start_ (n := 35) (S := fun w' => True) (ds := []) bD120 (by kernel_rfl) rfl rfl trivial (fun hHeld => ?_); refine with_tabW rectolaw31_DagOwn.tab15 rectolaw31_DagOwn.bits15 (fun HT_ HW_ => ?_)
         generalize w55.drew = w56 at HO239 HO243 BK234 HB hHeld ⊢
         refine pure_ (i := 0) (N := some 59) (v := ?_) (a' := ?_) bD121 rfl rfl qaD12 (fun _ _ _ h => h) (Or.inl ⟨by rfl, ?_⟩) ?_ ?_
         rotate_left
         · intro w'
           go_simp
           with_reducible rfl
         rotate_left
         · exact qsD120
         refine pure_ (i := 1) (N := some 60) (v := ?_) (a' := ?_) bD122 rfl rfl qaD12 (fun _ _ _ h => h) (Or.inl ⟨by rfl, ?_⟩) ?_ ?_
         rotate_left
         · intro w'
           go_simp
           with_reducible rfl
         rotate_left
         · exact qsD120
         refine pure_ (i := 2) (N := some 61) (v := ?_) (a' := ?_) bD123 rfl rfl qaD12 (fun _ _ _ h => h) (Or.inl ⟨by rfl, ?_⟩) ?_ ?_
         rotate_left
         · intro w'
           go_simp
           with_reducible rfl
         rotate_left
         · exact qsD120
         refine pure_ (i := 3) (N := some 62) (v := ?_) (a' := ?_) bD124 rfl rfl qaD12 (fun _ _ _ h => h) (Or.inl ⟨by rfl, ?_⟩) ?_ ?_
         rotate_left
         · intro w'
           go_simp
           with_reducible rfl
         rotate_left
         · exact qsD120
         refine pure_ (i := 4) (N := some 63) (v := ?_) (a' := ?_) bD125 rfl rfl qaD12 (fun _ _ _ h => h) (Or.inl ⟨by rfl, ?_⟩) ?_ ?_
         rotate_left
         · intro w'
           go_simp
           with_reducible rfl
         rotate_left
         · exact qsD120
         refine pure_ (i := 5) (N := some 64) (v := ?_) (a' := ?_) bD126 rfl rfl qaD12 (fun _ _ _ h => h) (Or.inl ⟨by rfl, ?_⟩) ?_ ?_
         rotate_left
         · intro w'
           go_simp
           with_reducible rfl
         rotate_left
         · exact qsD120
         refine pure_ (i := 6) (N := some 65) (v := ?_) (a' := ?_) bD127 rfl rfl qaD12 (fun _ _ _ h => h) (Or.inl ⟨by rfl, ?_⟩) ?_ ?_
         rotate_left
         · intro w'
           go_simp
           with_reducible rfl
         rotate_left
         · exact qsD120
         refine pure_ (i := 7) (N := some 66) (v := undef) (a' := ?_) bD128 rfl rfl qaD12 (fun _ _ _ h => h) (Or.inr ⟨by rfl, rfl⟩) ?_ ?_
         rotate_left
         · exact qsD120
         refine pure_ (i := 8) (N := some 67) (v := undef) (a' := ?_) bD129 rfl rfl qaD12 (fun _ _ _ h => h) (Or.inr ⟨by rfl, rfl⟩) ?_ ?_
         rotate_left
         · exact qsD120
         refine pure_ (i := 9) (N := some 68) (v := undef) (a' := ?_) bD1210 rfl rfl qaD12 (fun _ _ _ h => h) (Or.inr ⟨by rfl, rfl⟩) ?_ ?_
         rotate_left
         · exact qsD120
         refine pure_ (i := 10) (N := some 69) (v := undef) (a' := ?_) bD1211 rfl rfl qaD12 (fun _ _ _ h => h) (Or.inr ⟨by rfl, rfl⟩) ?_ ?_
         rotate_left
         · exact qsD120
         refine pure_ (i := 11) (N := some 70) (v := undef) (a' := ?_) bD1212 rfl rfl qaD12 (fun _ _ _ h => h) (Or.inr ⟨by rfl, rfl⟩) ?_ ?_
         rotate_left
         · exact qsD120
         refine pure_ (i := 12) (N := some 71) (v := undef) (a' := ?_) bD1213 rfl rfl qaD12 (fun _ _ _ h => h) (Or.inr ⟨by rfl, rfl⟩) ?_ ?_
         rotate_left
         · exact qsD120
         refine pure_ (i := 13) (N := some 72) (v := undef) (a' := ?_) bD1214 rfl rfl qaD12 (fun _ _ _ h => h) (Or.inr ⟨by rfl, rfl⟩) ?_ ?_
         rotate_left
         · exact qsD120
         refine pure_ (i := 14) (N := some 73) (v := undef) (a' := ?_) bD1215 rfl rfl qaD12 (fun _ _ _ h => h) (Or.inr ⟨by rfl, rfl⟩) ?_ ?_
         rotate_left
         · exact qsD120
         refine pure_ (i := 15) (N := some 74) (v := undef) (a' := ?_) bD1216 rfl rfl qaD12 (fun _ _ _ h => h) (Or.inr ⟨by rfl, rfl⟩) ?_ ?_
         rotate_left
         · exact qsD120
         refine pure_ (i := 16) (N := some 75) (v := undef) (a' := ?_) bD1217 rfl rfl qaD12 (fun _ _ _ h => h) (Or.inr ⟨by rfl, rfl⟩) ?_ ?_
         rotate_left
         · exact qsD120
         refine pure_ (i := 17) (N := some 76) (v := undef) (a' := ?_) bD1218 rfl rfl qaD12 (fun _ _ _ h => h) (Or.inr ⟨by rfl, rfl⟩) ?_ ?_
         rotate_left
         · exact qsD120
         refine pure_ (i := 18) (N := some 77) (v := undef) (a' := ?_) bD1219 rfl rfl qaD12 (fun _ _ _ h => h) (Or.inr ⟨by rfl, rfl⟩) ?_ ?_
         rotate_left
         · exact qsD120
         refine pure_ (i := 19) (N := some 78) (v := undef) (a' := ?_) #[true, true, true, true, true, true, true, true, true, true, true, true, true, true, true, true, true, true, true, true, false, false, false, false, false, false, false, false, false, false, false, false, false, false, false] rfl rfl qaD12 (fun _ _ _ h => h) (Or.inr ⟨by rfl, rfl⟩) ?_ ?_
         rotate_left
         · exact qsD120
         refine pure_ (i := 20) (N := some 79) (v := undef) (a' := ?_) bD1220 rfl rfl qaD12 (fun _ _ _ h => h) (Or.inr ⟨by rfl, rfl⟩) ?_ ?_
         rotate_left
         · exact qsD120
         refine pure_ (i := 21) (N := some 80) (v := undef) (a' := ?_) bD1221 rfl rfl qaD12 (fun _ _ _ h => h) (Or.inr ⟨by rfl, rfl⟩) ?_ ?_
         rotate_left
         · exact qsD120
         refine pure_ (i := 22) (N := some 81) (v := undef) (a' := ?_) bD1222 rfl rfl qaD12 (fun _ _ _ h => h) (Or.inr ⟨by rfl, rfl⟩) ?_ ?_
         rotate_left
         · exact qsD120
         refine pure_ (i := 23) (N := some 82) (v := undef) (a' := ?_) bD1223 rfl rfl qaD12 (fun _ _ _ h => h) (Or.inr ⟨by rfl, rfl⟩) ?_ ?_
         rotate_left
         · exact qsD120
         refine pure_ (i := 24) (N := some 83) (v := undef) (a' := ?_) bD1224 rfl rfl qaD12 (fun _ _ _ h => h) (Or.inr ⟨by rfl, rfl⟩) ?_ ?_
         rotate_left
         · exact qsD120
         refine pure_ (i := 25) (N := some 84) (v := undef) (a' := ?_) bD1225 rfl rfl qaD12 (fun _ _ _ h => h) (Or.inr ⟨by rfl, rfl⟩) ?_ ?_
         rotate_left
         · exact qsD120
         refine pure_ (i := 26) (N := some 85) (v := undef) (a' := ?_) bD1226 rfl rfl qaD12 (fun _ _ _ h => h) (Or.inr ⟨by rfl, rfl⟩) ?_ ?_
         rotate_left
         · exact qsD120
         refine pure_ (i := 27) (N := some 86) (v := undef) (a' := ?_) bD1227 rfl rfl qaD12 (fun _ _ _ h => h) (Or.inr ⟨by rfl, rfl⟩) ?_ ?_
         rotate_left
         · exact qsD120
         refine pure_ (i := 28) (N := some 87) (v := undef) (a' := ?_) bD1228 rfl rfl qaD12 (fun _ _ _ h => h) (Or.inr ⟨by rfl, rfl⟩) ?_ ?_
         rotate_left
         · exact qsD120
         refine pure_ (i := 29) (N := some 88) (v := ?_) (a' := ?_) bD1229 rfl rfl qaD12 (fun _ _ _ h => h) (Or.inl ⟨by rfl, ?_⟩) ?_ ?_
         rotate_left
         · intro w'
           go_simp
           with_reducible rfl
         rotate_left
         · exact qsD120
         refine pure_ (i := 30) (N := some 89) (v := ?_) (a' := ?_) bD1230 rfl rfl qaD12 (fun _ _ _ h => h) (Or.inl ⟨by rfl, ?_⟩) ?_ ?_
         rotate_left
         · intro w'
           go_simp
           with_reducible rfl
         rotate_left
         · exact qsD120
         refine pure_ (i := 31) (N := some 90) (v := ?_) (a' := ?_) bD1231 rfl rfl qaD12 (fun _ _ _ h => h) (Or.inl ⟨by rfl, ?_⟩) ?_ ?_
         rotate_left
         · intro w'
           go_simp
           with_reducible rfl
         rotate_left
         · exact qsD120
         refine one_ (i := 32) (N := some 91) bD1232 rfl rfl (one_of HT_.out (by kernel_rfl)) (by decide) (fun K hK => ?_)
         refine goes_ Tryd.func8 (by kernel_rfl) rfl #[] (by rfl) rfl rfl qD122 ?_
         with_reducible refine (rectolaw31_four.calls kj2  t248 _ A51.out ?side1).mono ?_
         (case side1 => exact qD128)
         rintro e w57 ⟨rfl, hb⟩
         refine ⟨_, rfl, ?_⟩
         have n0_ := Aside0.mk (Kd.N_below (mND12 HO239.out) hb); have n1_ := Aside0.mk (Kd.N_below (mND12 HO243.out) hb); have n2_ := Aside0.mk (blk_below (g := gb234) (o := .cells #[.int .i64 a1_0, .string a1_1, .int .i64 a1_2, .slice A1_3 l1_3.length c1_3] 43 (0, 0)) qD121 hb); have n3_ := Aside0.mk (below_step qD120 hb); clear HO239; clear HO243; clear BK234; clear HB; have HO239 := n0_; have HO243 := n1_; have BK234 := n2_; have HB := n3_; clear n0_ n1_ n2_ n3_
         (try clear hb)
         (try clear hb2)
         (try clear hk)
         (try clear hi)
         refine hK.out _ _ trivial (fun hHeld => ?_)
         clear hK K
         refine norm_ (a' := ?_) ?_ ?_
         rotate_left
         · show Act.put _ (some 91) _ = _
           simp only [Act.put, List.setIfInBounds_toArray, List.set_cons_zero, List.set_cons_succ, i64_w, i32_w]
           rfl
         refine pure_ (i := 33) (N := some 92) (v := ?_) (a' := ?_) bD1233 rfl rfl qaD12 (fun _ _ _ h => h) (Or.inl ⟨by rfl, ?_⟩) ?_ ?_
         rotate_left
         · intro w'
           go_simp
           with_reducible rfl
         rotate_left
         · exact qsD120
         refine pure_ (i := 34) (N := some 4) (v := ?_) (a' := ?_) bD1234 rfl rfl qaD12 (fun _ _ _ h => h) (Or.inl ⟨by rfl, ?_⟩) ?_ ?_
         rotate_left
         · intro w'
           go_simp
           with_reducible rfl
         rotate_left
         · exact qsD120
         refine done_ (done_of HT_.out (by kernel_rfl)) ?_
         try go_wp2
         go_ret
         exact ⟨qD126, qD120⟩
     · rw [if_neg c15] at H
       have c15b0 : (t240 == t244) = false := beq_eq_false_iff_ne.mpr c15; have c15b1 : (t240 != t244) = true := bne_iff_ne.mpr c15
       exact absurd ((Option.some.inj H).trans hr_.out) (by decide)
theorem rectolaw31_DagOwn.calls (k : Nat) (A0 : Option Addr) (c0 : Nat) (l0 : List (S43)) (a1_0 : Int) (a1_1 : ByteArray) (a1_2 : Int) (A1_3 : Option Addr) (c1_3 : Nat) (l1_3 : List Int) (r : Bool) (w : World) (hr0 : Kd.C k43 w A0 l0.length l0) (hc0 : l0.length ≤ c0) (hr1_3 : Kd.C (Kd.int .i64) w A1_3 l1_3.length l1_3) (hc1_3 : l1_3.length ≤ c1_3) (h : rectolaw31_DagOwn.f k l0 a1_0 a1_1 a1_2 l1_3 = some r) (HG : Aside0 (Laid w)) (hr_ : r = true := by rfl) :
 Calls Tryd.prog 6 #[.slice A0 l0.length c0, .agg #[.int .i64 a1_0, .string a1_1, .int .i64 a1_2, .slice A1_3 l1_3.length c1_3]] w fun e w' => e = .returned (.bool r) ∧ Below w.heap.size w w' :=
 rectolaw31_DagOwn.calls_true k A0 c0 l0 a1_0 a1_1 a1_2 A1_3 c1_3 l1_3 r w hr0 hc0 hr1_3 hc1_3 h HG ⟨hr_⟩

end Go.Proofs.YtgopimjfoppkmaaDoor.D
