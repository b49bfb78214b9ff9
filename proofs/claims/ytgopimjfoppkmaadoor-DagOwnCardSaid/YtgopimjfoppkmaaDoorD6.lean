/- Printed functions, each with a proof that the call answers so. -/
import Derived.Test.YtgopimjfoppkmaaDoorD0
import Derived.Test.YtgopimjfoppkmaaDoorD5
namespace Go.Proofs.YtgopimjfoppkmaaDoor.D
open Go.RowKit Go.Proofs.YtgopimjfoppkmaaDoorW.PrintWords Go.Proofs.YtgopimjfoppkmaaDoorW.PrintLast Go.Proofs.YtgopimjfoppkmaaDoorW.PrintMore
attribute [local go_sem] max2_int min2_int max_two min_two max_three min_three max_four min_four   -- for this text's walks alone
set_option linter.unusedVariables false
set_option linter.unusedSimpArgs false

abbrev bD60 : Array Bool := #[false, false, false, false, false, false]
abbrev bD61 : Array Bool := #[true, false, false, false, false, false]
abbrev bD62 : Array Bool := #[true, true, false, false, false, false]
abbrev bD63 : Array Bool := #[true, true, true, false, false, false]
abbrev bD64 : Array Bool := #[true, true, true, true, false, false]
abbrev bD65 : Array Bool := #[true, true, true, true, true, false]
abbrev bD66 : Array Bool := #[true, true, true, true, true, true]
theorem qsD60 {p : Prop} (h : p := by simp only [Act.put, List.setIfInBounds_toArray, List.set_cons_zero, List.set_cons_succ, i64_w, i32_w]; rfl) : p := h
theorem qD60 {p : Prop} (h : p := by repeat (first | (with_reducible first | exact HB.out | apply below_alloc | apply pw_below_drewN | apply below_drew1 | refine below_set ?_ GE125.out) | exact HB.out)) : p := h
theorem qD61 {p : Prop} (h : p := by repeat (first | (with_reducible first | exact HB.out | apply below_alloc | apply pw_below_drewN | apply below_drew1) | exact HB.out)) : p := h
theorem qD62 {p : Prop} (h : p := by first | rfl | (simp only [*]; done) | (simp only [*]; rfl)) : p := h
theorem qD63 {p : Prop} (h : p := by first | (with_reducible assumption) | assumption) : p := h
theorem qD64 {p : Prop} (h : p := by repeat (first | exact (Kd.C_below HR124_3.out HB.out) | (with_reducible refine Kd.C_alloc ?_ _) | (with_reducible refine Kd.C_drewN ?_ _) | (with_reducible refine Kd.C_drew ?_))) : p := h
theorem qD65 {p : Prop} (h : p := by repeat (first | exact (Kd.C_below HR129.out HB.out) | (with_reducible refine Kd.C_alloc ?_ _) | (with_reducible refine Kd.C_drewN ?_ _) | (with_reducible refine Kd.C_drew ?_))) : p := h
theorem qD66 {p : Prop} (h : p := by first | rfl | (simp [errW_none, errW_some] <;> rfl) | (simp [*, errW_none, errW_some] <;> rfl)) : p := h
theorem qD67 {p : Prop} (h : p := by (try simp only [List.map_toArray, List.map_cons, List.map_nil]); first | done | rfl | (simp only [List.length_drop, List.length_take]; rfl)) : p := h
/-! ### dag_Check: function 21 -/
def dag_Check.l0 : Nat → List (S43) → List (S43) → Int → Int → Option (Int)
 | 0, _, _, _, _ => none
 | k + 1, x0, x8, x9, x10 => if x10 < x9 then (if 0 ≤ x10 then (if x10 < (x8.length : Int) then (if x10 ≤ (x0.length : Int) then ((dag_right.f k (x0.take (x10 : Int).toNat) ((rd_T43 x8 x10).f0) ((rd_T43 x8 x10).f1) ((rd_T43 x8 x10).f2) ((rd_T43 x8 x10).f3)).bind fun t130 => (if t130 = true then (dag_Check.l0 k x0 x8 x9 (wrap64 (x10 + 1))) else (some 4))) else (none)) else (none)) else (none)) else (some 0)
def dag_Check.f (k : Nat) (l0 : List (S43)) : Option (Int) := if (l0.length : Int) > 1000 then (some 2) else (dag_Check.l0 k l0 l0 (l0.length : Int) 0)
theorem dag_Check.mono_l : ∀ k, (∀ y0 y1 y2 y3, LeO (dag_Check.l0 k y0 y1 y2 y3) (dag_Check.l0 (k + 1) y0 y1 y2 y3))
 | 0 => fun _ _ _ _ r h => by simp [dag_Check.l0] at h
 | k + 1 => by
  have ih0 := dag_Check.mono_l k
  · intro y0 y1 y2 y3
    unfold dag_Check.l0
    repeat' first
    | (with_reducible exact ih0 _ _ _ _)
    | (with_reducible exact dag_right.mono _ _ _ _ _ _)
    | (with_reducible exact LeO.refl _)
    | (with_reducible exact LeO.none _)
    | (with_reducible refine LeO.ite ?_ ?_)
    | (with_reducible refine LeO.bind ?_ (fun _ => ?_))
    | exact ih0 _ _ _ _
    | exact dag_right.mono _ _ _ _ _ _
    | exact LeO.none _
    | refine LeO.ite ?_ ?_
    | refine LeO.bind ?_ (fun _ => ?_)
theorem dag_Check.mono : ∀ a0 k, LeO (dag_Check.f k a0) (dag_Check.f (k + 1) a0) := by
 intro a0 k
 have ih0 := dag_Check.mono_l k; unfold dag_Check.f
 repeat' first
  | (with_reducible exact ih0 _ _ _ _)
  | (with_reducible exact dag_right.mono _ _ _ _ _ _)
  | (with_reducible exact LeO.refl _)
  | (with_reducible exact LeO.none _)
  | (with_reducible refine LeO.ite ?_ ?_)
  | (with_reducible refine LeO.bind ?_ (fun _ => ?_))
  | exact ih0 _ _ _ _
  | exact dag_right.mono _ _ _ _ _ _
  | exact LeO.none _
  | refine LeO.ite ?_ ?_
  | refine LeO.bind ?_ (fun _ => ?_)
set_option maxHeartbeats 8000000 in
set_option maxRecDepth 100000 in
theorem dag_Check.calls (k : Nat) (A0 : Option Addr) (c0 : Nat) (l0 : List (S43)) (r : Int) (w : World) (hr0 : Kd.C k43 w A0 l0.length l0) (hc0 : l0.length ≤ c0) (h : dag_Check.f k l0 = some r) (HG : Aside0 (Laid w)) :
 Calls Tryd.prog 21 #[.slice A0 l0.length c0] w fun e w' => e = .returned (.int .i64 r) ∧ Below w.heap.size w w' := by
 have hu43 := Tryd.underlying43; have HR0 := Aside0.mk hr0; have HC0 := Aside0.mk hc0; clear hr0 hc0; have HB := Aside0.mk (Below.refl w.heap.size w)
 have H : (if (l0.length : Int) > 1000 then (some 2) else (dag_Check.l0 k l0 l0 (l0.length : Int) 0)) = some r := h
 clear h
 by_cases c2 : (l0.length : Int) > 1000
 · rw [if_pos c2] at H
   have c2b0 : decide (1000 < (l0.length : Int)) = true := decide_eq_true c2; have c2b1 : decide (1000 < l0.length) = true := decide_eq_true (by omega); clear c2; obtain rfl := Option.some.inj H
   go_enter Tryd.func21, Tryd.ntmps21
   go_wp2
   go_ret
   exact ⟨qD66, qD61⟩
 · rw [if_neg c2] at H
   have c2b0 : decide (1000 < (l0.length : Int)) = false := decide_eq_false c2; have c2b1 : decide (1000 < l0.length) = false := decide_eq_false (by omega); clear c2; have H' := Aside0.mk H; clear H
   go_enter Tryd.func21, Tryd.ntmps21
   go_wp2
   go_loopg [10] k (fun kq v10 w' => ∃ (x10_1 : Int), v10 = .int .i64 x10_1 ∧ Aside0 (dag_Check.l0 kq l0 l0 (l0.length : Int) x10_1 = some r) ∧ Aside0 (kq ≤ k) ∧ Aside0 (Below w.heap.size w w'))
   case atStart => exact ⟨(0), (by first | rfl | (simp; done) | (simp [*]; done)), H', ⟨Nat.le_refl _⟩, ⟨qD61⟩⟩
   case round =>
    clear H'; (try clear c2); (try clear c2b0); (try clear c2b1); (try clear p2); obtain ⟨x10_1, rfl, HA, HK1, HB⟩ := hrel
    cases gk with
    | zero => exact absurd HA.out (by simp [dag_Check.l0])
    | succ k1 =>
     have H := HA.out; clear HA; simp only [dag_Check.l0] at H
     by_cases c3 : x10_1 < (l0.length : Int)
     · rw [if_pos c3] at H
       have c3b0 : decide (x10_1 < (l0.length : Int)) = true := decide_eq_true c3; clear c3
       by_cases c4 : 0 ≤ x10_1
       · rw [if_pos c4] at H
         have c4b0 : decide (0 ≤ x10_1) = true := decide_eq_true c4; clear c4
         by_cases c5 : x10_1 < (l0.length : Int)
         · rw [if_pos c5] at H
           have c5b0 : decide (x10_1 < (l0.length : Int)) = true := decide_eq_true c5; clear c5; have c6b0 := eq_true (of_decide_eq_true qD63 : 0 ≤ x10_1)
           by_cases c7 : x10_1 ≤ (l0.length : Int)
           · rw [if_pos c7] at H
             have c7b0 := eq_true c7; have c7b1 : decide (x10_1 ≤ (l0.length : Int)) = true := decide_eq_true c7; clear c7; obtain ⟨y126, hy126⟩ : ∃ y_ : List (S43), y_ = (l0.take (x10_1 : Int).toNat) := ⟨_, rfl⟩
             replace H : ((dag_right.f k1 y126 ((rd_T43 l0 x10_1).f0) ((rd_T43 l0 x10_1).f1) ((rd_T43 l0 x10_1).f2) ((rd_T43 l0 x10_1).f3)).bind fun t130 => (if t130 = true then (dag_Check.l0 k1 l0 l0 (l0.length : Int) (wrap64 (x10_1 + 1))) else (some 4))) = some r := by first | (rw [hy126]; with_reducible exact H) | (have H2_ := (Option.bind_some _ _).symm.trans H; rw [hy126]; with_reducible exact H2_) | (have H2_ := (Option.bind_some _ _).symm.trans H; with_reducible exact H2_) | with_reducible exact H | (rw [hy126]; exact H) | exact H
             have Ny126 := Aside0.mk hy126; clear hy126; replace H := Option.bind_eq_some_iff.mp H; obtain ⟨t130, A80, H⟩ := H
             replace H : (if t130 = true then (dag_Check.l0 k1 l0 l0 (l0.length : Int) (wrap64 (x10_1 + 1))) else (some 4)) = some r := H
             have A8 := Aside0.mk A80; clear A80
             by_cases c9 : t130 = true
             · subst c9
               have H1 : (dag_Check.l0 k1 l0 l0 (l0.length : Int) (wrap64 (x10_1 + 1))) = some r := by rw [if_pos rfl] at H; exact H
               clear H; have H := H1; clear H1; have H' := Aside0.mk H; clear H; have p124 : 0 ≤ (x10_1 : Int) := of_decide_eq_true qD63; have q124 : x10_1 < (l0.length : Int) := of_decide_eq_true qD63; obtain ⟨ad124, A124_3, c124_3, e124, hx124_0, hx124_1, hx124_2, hx124_3, hl124_3, hi124_3⟩ := at_T43 HR0.out x10_1 p124 q124; cases e124; replace hx124_0 := (HB.out.cell (World.block_lt_of_cell? w _ hx124_0)).trans hx124_0; replace hx124_1 := (HB.out.cell (World.block_lt_of_cell? w _ hx124_1)).trans hx124_1; replace hx124_2 := (HB.out.cell (World.block_lt_of_cell? w _ hx124_2)).trans hx124_2; replace hx124_3 := (HB.out.cell (World.block_lt_of_cell? w _ hx124_3)).trans hx124_3; have HR124_3 := Aside0.mk hi124_3; have HC124_3 := Aside0.mk hl124_3; clear hi124_3 hl124_3; replace p124 := eq_true p124; replace q124 := eq_true q124
               try go_wp2_with (first | ((with_reducible refine gate_dst (N := 4) rfl ?_); refine box_event ?hg (N := 4) ?hd (cs := #[.int .i64 0, .string (⟨#[]⟩ : ByteArray), .int .i64 0, .slice none 0 0]) (t := 43) ?hr ?_; (case hd => rfl); (case hg => rfl); (case hr => first | (go_simp; done) | (go_simp; rfl)); intro gb125 hg w10 hbox hb; have n0_ := Aside0.mk (below_step qD61 hb); have n1_ := Aside0.mk (hbox); have n2_ := Aside0.mk ((by rw [hg]; exact (below_size qD61) : w.heap.size ≤ gb125)); have n3_ := Aside0.mk ((by rw [hg]; exact (below_size qD61) : w.heap.size ≤ gb125)); clear HB; have HB := n0_; have BK125 := n1_; have GW125 := n2_; have GE125 := n3_; clear n0_ n1_ n2_ n3_; clear hb hbox hg; have hcz11_0 : w10.cell? ⟨gb125, 0, none⟩ = some (.int .i64 0) := (blk_cell BK125.out 0).trans rfl; have hcz11_1 : w10.cell? ⟨gb125, 1, none⟩ = some (.string (⟨#[]⟩ : ByteArray)) := (blk_cell BK125.out 1).trans rfl; have hcz11_2 : w10.cell? ⟨gb125, 2, none⟩ = some (.int .i64 0) := (blk_cell BK125.out 2).trans rfl; have hcz11_3 : w10.cell? ⟨gb125, 3, none⟩ = some (.slice none 0 0) := (blk_cell BK125.out 3).trans rfl; have hfz11_0 := blk_frozen BK125.out 0; have hfz11_1 := blk_frozen BK125.out 1; have hfz11_2 := blk_frozen BK125.out 2; have hfz11_3 := blk_frozen BK125.out 3))
               have n0_ : Aside0 (((((w10.setCell ⟨gb125, 0, none⟩ (.int .i64 ((rd_T43 l0 x10_1).f0))).setCell ⟨gb125, 1, none⟩ (.string ((rd_T43 l0 x10_1).f1))).setCell ⟨gb125, 2, none⟩ (.int .i64 ((rd_T43 l0 x10_1).f2))).setCell ⟨gb125, 3, none⟩ (.slice A124_3 ((rd_T43 l0 x10_1).f3).length c124_3)).heap[gb125]? = some (.cells #[.int .i64 ((rd_T43 l0 x10_1).f0), .string ((rd_T43 l0 x10_1).f1), .int .i64 ((rd_T43 l0 x10_1).f2), .slice A124_3 ((rd_T43 l0 x10_1).f3).length c124_3] 43 (0, 0))) := ⟨by (with_reducible repeat (first | refine blk_drewN ?_ _ | refine blk_drew ?_ | refine blk_alloc ?_ _)); refine blk_put (cs := #[.int .i64 ((rd_T43 l0 x10_1).f0), .string ((rd_T43 l0 x10_1).f1), .int .i64 ((rd_T43 l0 x10_1).f2), .slice none 0 0]) ?_ 3 _ qD62; (with_reducible repeat (first | refine blk_drewN ?_ _ | refine blk_drew ?_ | refine blk_alloc ?_ _)); refine blk_put (cs := #[.int .i64 ((rd_T43 l0 x10_1).f0), .string ((rd_T43 l0 x10_1).f1), .int .i64 0, .slice none 0 0]) ?_ 2 _ qD62; (with_reducible repeat (first | refine blk_drewN ?_ _ | refine blk_drew ?_ | refine blk_alloc ?_ _)); refine blk_put (cs := #[.int .i64 ((rd_T43 l0 x10_1).f0), .string (⟨#[]⟩ : ByteArray), .int .i64 0, .slice none 0 0]) ?_ 1 _ qD62; (with_reducible repeat (first | refine blk_drewN ?_ _ | refine blk_drew ?_ | refine blk_alloc ?_ _)); refine blk_put (cs := #[.int .i64 0, .string (⟨#[]⟩ : ByteArray), .int .i64 0, .slice none 0 0]) ?_ 0 _ qD62; (with_reducible repeat (first | refine blk_drewN ?_ _ | refine blk_drew ?_ | refine blk_alloc ?_ _)); exact BK125.out⟩; have n1_ : Aside0 (Below w.heap.size w ((((w10.setCell ⟨gb125, 0, none⟩ (.int .i64 ((rd_T43 l0 x10_1).f0))).setCell ⟨gb125, 1, none⟩ (.string ((rd_T43 l0 x10_1).f1))).setCell ⟨gb125, 2, none⟩ (.int .i64 ((rd_T43 l0 x10_1).f2))).setCell ⟨gb125, 3, none⟩ (.slice A124_3 ((rd_T43 l0 x10_1).f3).length c124_3))) := ⟨qD60⟩
               (try clear BK125)
               (try clear HB)
               generalize ((((w10.setCell ⟨gb125, 0, none⟩ (.int .i64 ((rd_T43 l0 x10_1).f0))).setCell ⟨gb125, 1, none⟩ (.string ((rd_T43 l0 x10_1).f1))).setCell ⟨gb125, 2, none⟩ (.int .i64 ((rd_T43 l0 x10_1).f2))).setCell ⟨gb125, 3, none⟩ (.slice A124_3 ((rd_T43 l0 x10_1).f3).length c124_3)) = w12 at n0_ n1_ ⊢
               have BK125 := n0_; have HB := n1_; clear n0_ n1_; have n0_ := Aside0.mk (blk_drew BK125.out); have n1_ := Aside0.mk (below_drew1 HB.out); clear BK125; clear HB; have BK125 := n0_; have HB := n1_; clear n0_ n1_; have q14 : (x10_1 : Int) ≤ ((l0.length : Int) : Int) := of_decide_eq_true qD63; obtain ⟨i014, hi014, _, hsz14, _⟩ := info_parts info43; have hroom14 : l0.length ≤ c0 := HC0.out; have hC14 : Kd.C k43 _ (some ad124) l0.length l0 := HR0.out; have hcut14 := cut_to (P := Tryd.prog) 22 43 .i64 Tryd.underlying22 hi014 (some ad124) l0.length c0 x10_1 (of_decide_eq_true qD63) q14 hroom14; have hr14 := Kd.C_take (m := (x10_1 : Int).toNat) hC14 (by omega); have hy14 : y126.length = (x10_1 : Int).toNat := (by rw [Ny126.out, List.length_take]; omega)
               rw [← Ny126.out] at hr14
               rw [← hy14] at hcut14
               have HR129 := Aside0.mk hr14; have HC129 := Aside0.mk (show y126.length ≤ c0 from by omega); clear hr14 hC14 hroom14 hi014 hsz14; have KY14 := Aside0.mk hy14; clear hy14; replace q14 := eq_true q14
               refine start_ (n := 6) (S := fun w' => w'.cell? ⟨gb125, 0, none⟩ = some (.int .i64 ((rd_T43 l0 x10_1).f0)) ∧ w'.cell? ⟨gb125, 1, none⟩ = some (.string ((rd_T43 l0 x10_1).f1)) ∧ w'.cell? ⟨gb125, 2, none⟩ = some (.int .i64 ((rd_T43 l0 x10_1).f2)) ∧ w'.cell? ⟨gb125, 3, none⟩ = some (.slice A124_3 ((rd_T43 l0 x10_1).f3).length c124_3)) (ds := []) bD60 (by kernel_rfl) rfl rfl ⟨(blk_cell BK125.out 0).trans rfl, (blk_cell BK125.out 1).trans rfl, (blk_cell BK125.out 2).trans rfl, (blk_cell BK125.out 3).trans rfl⟩ (fun hHeld => ?_)
               generalize w12.drew = w13 at BK125 HB HR129 hHeld ⊢
               refine pure_ (i := 0) (N := some 15) (v := ?_) (a' := ?_) bD61 rfl rfl (by kernel_rfl) (fun _ _ _ h => h) (Or.inl ⟨by rfl, ?_⟩) ?_ ?_
               rotate_left
               · intro w'
                 go_simp
                 with_reducible rfl
               rotate_left
               · exact qsD60
               refine pure_ (i := 1) (N := some 16) (v := ?_) (a' := ?_) bD62 rfl rfl (by kernel_rfl) (fun _ _ _ h => h) (Or.inl ⟨by rfl, ?_⟩) ?_ ?_
               rotate_left
               · intro w'
                 go_simp
                 with_reducible rfl
               rotate_left
               · exact qsD60
               refine pure_ (i := 2) (N := some 17) (v := ?_) (a' := ?_) bD63 rfl rfl (by kernel_rfl) (fun _ _ _ h => h) (Or.inl ⟨by rfl, ?_⟩) ?_ ?_
               rotate_left
               · intro w'
                 go_simp
                 with_reducible rfl
               rotate_left
               · exact qsD60
               refine take_ (i := 3) (N := some 18) (v := ?_) (a' := ?_) bD64 rfl rfl (by kernel_rfl) (fun _ _ _ h => h) (Or.inl ⟨by rfl, ?_⟩) hHeld ?_ ?_
               rotate_left
               · rintro w' ⟨s0, s1, s2, s3⟩
                 go_simp
                 with_reducible rfl
               rotate_left
               · exact qsD60
               refine one_ (i := 4) (N := some 19) bD65 rfl rfl (by kernel_rfl) (by decide) (fun K hK => ?_)
               refine goes_ Tryd.func35 (by kernel_rfl) rfl #[.slice (some ad124) y126.length c0, .agg #[.int .i64 ((rd_T43 l0 x10_1).f0), .string ((rd_T43 l0 x10_1).f1), .int .i64 ((rd_T43 l0 x10_1).f2), .slice A124_3 ((rd_T43 l0 x10_1).f3).length c124_3]] (by rfl) rfl rfl qD67 ?_
               with_reducible refine (dag_right.calls k1 _ _ y126 ((rd_T43 l0 x10_1).f0) ((rd_T43 l0 x10_1).f1) ((rd_T43 l0 x10_1).f2) _ _ ((rd_T43 l0 x10_1).f3) true _ ?side1 ?side2 ?side3 ?side4 A8.out ?side5).mono ?_
               (case side1 => exact qD65)
               (case side2 => exact HC129.out)
               (case side3 => exact qD64)
               (case side4 => exact HC124_3.out)
               (case side5 => exact Aside0.mk (Laid.below HG.out qD60))
               rintro e w15 ⟨rfl, hb⟩
               refine ⟨_, rfl, ?_⟩
               have n0_ := Aside0.mk (blk_below (g := gb125) (o := .cells #[.int .i64 ((rd_T43 l0 x10_1).f0), .string ((rd_T43 l0 x10_1).f1), .int .i64 ((rd_T43 l0 x10_1).f2), .slice A124_3 ((rd_T43 l0 x10_1).f3).length c124_3] 43 (0, 0)) (by (with_reducible repeat (first | refine blk_drewN ?_ _ | refine blk_drew ?_ | refine blk_alloc ?_ _)); exact BK125.out) hb); have n1_ := Aside0.mk (below_step qD60 hb); clear BK125; clear HB; have BK125 := n0_; have HB := n1_; clear n0_ n1_
               (try clear hb)
               (try clear hb2)
               (try clear hk)
               (try clear hi)
               refine hK.out _ _ ⟨(blk_cell BK125.out 0).trans rfl, (blk_cell BK125.out 1).trans rfl, (blk_cell BK125.out 2).trans rfl, (blk_cell BK125.out 3).trans rfl⟩ (fun hHeld => ?_)
               clear hK K
               refine norm_ (a' := ?_) ?_ ?_
               rotate_left
               · show Act.put _ (some 19) _ = _
                 simp only [Act.put, List.setIfInBounds_toArray, List.set_cons_zero, List.set_cons_succ, i64_w, i32_w]
                 rfl
               refine pure_ (i := 5) (N := some 20) (v := ?_) (a' := ?_) bD66 rfl rfl (by kernel_rfl) (fun _ _ _ h => h) (Or.inl ⟨by rfl, ?_⟩) ?_ ?_
               rotate_left
               · intro w'
                 go_simp
                 with_reducible rfl
               rotate_left
               · exact qsD60
               refine done_ (by kernel_rfl) ?_
               try go_wp2
               go_roundg k1
               case measure => have := HK1.out; omega
               case rel => exact ⟨(wrap64 (x10_1 + 1)), (by first | rfl | (simp; done) | (simp [*]; done)), H', ⟨by have := HK1.out; omega⟩, ⟨qD60⟩⟩
             · replace c9 := Bool.eq_false_iff.mpr c9
               subst c9
               have H1 : (some 4) = some r := by rw [if_neg (show ¬ (false = true) by decide)] at H; exact H
               clear H; have H := H1; clear H1; obtain rfl := Option.some.inj H; have p124 : 0 ≤ (x10_1 : Int) := of_decide_eq_true qD63; have q124 : x10_1 < (l0.length : Int) := of_decide_eq_true qD63; obtain ⟨ad124, A124_3, c124_3, e124, hx124_0, hx124_1, hx124_2, hx124_3, hl124_3, hi124_3⟩ := at_T43 HR0.out x10_1 p124 q124; cases e124; replace hx124_0 := (HB.out.cell (World.block_lt_of_cell? w _ hx124_0)).trans hx124_0; replace hx124_1 := (HB.out.cell (World.block_lt_of_cell? w _ hx124_1)).trans hx124_1; replace hx124_2 := (HB.out.cell (World.block_lt_of_cell? w _ hx124_2)).trans hx124_2; replace hx124_3 := (HB.out.cell (World.block_lt_of_cell? w _ hx124_3)).trans hx124_3; have HR124_3 := Aside0.mk hi124_3; have HC124_3 := Aside0.mk hl124_3; clear hi124_3 hl124_3; replace p124 := eq_true p124; replace q124 := eq_true q124
               try go_wp2_with (first | ((with_reducible refine gate_dst (N := 4) rfl ?_); refine box_event ?hg (N := 4) ?hd (cs := #[.int .i64 0, .string (⟨#[]⟩ : ByteArray), .int .i64 0, .slice none 0 0]) (t := 43) ?hr ?_; (case hd => rfl); (case hg => rfl); (case hr => first | (go_simp; done) | (go_simp; rfl)); intro gb125 hg w16 hbox hb; have n0_ := Aside0.mk (below_step qD61 hb); have n1_ := Aside0.mk (hbox); have n2_ := Aside0.mk ((by rw [hg]; exact (below_size qD61) : w.heap.size ≤ gb125)); have n3_ := Aside0.mk ((by rw [hg]; exact (below_size qD61) : w.heap.size ≤ gb125)); clear HB; have HB := n0_; have BK125 := n1_; have GW125 := n2_; have GE125 := n3_; clear n0_ n1_ n2_ n3_; clear hb hbox hg; have hcz17_0 : w16.cell? ⟨gb125, 0, none⟩ = some (.int .i64 0) := (blk_cell BK125.out 0).trans rfl; have hcz17_1 : w16.cell? ⟨gb125, 1, none⟩ = some (.string (⟨#[]⟩ : ByteArray)) := (blk_cell BK125.out 1).trans rfl; have hcz17_2 : w16.cell? ⟨gb125, 2, none⟩ = some (.int .i64 0) := (blk_cell BK125.out 2).trans rfl; have hcz17_3 : w16.cell? ⟨gb125, 3, none⟩ = some (.slice none 0 0) := (blk_cell BK125.out 3).trans rfl; have hfz17_0 := blk_frozen BK125.out 0; have hfz17_1 := blk_frozen BK125.out 1; have hfz17_2 := blk_frozen BK125.out 2; have hfz17_3 := blk_frozen BK125.out 3))
               have n0_ : Aside0 (((((w16.setCell ⟨gb125, 0, none⟩ (.int .i64 ((rd_T43 l0 x10_1).f0))).setCell ⟨gb125, 1, none⟩ (.string ((rd_T43 l0 x10_1).f1))).setCell ⟨gb125, 2, none⟩ (.int .i64 ((rd_T43 l0 x10_1).f2))).setCell ⟨gb125, 3, none⟩ (.slice A124_3 ((rd_T43 l0 x10_1).f3).length c124_3)).heap[gb125]? = some (.cells #[.int .i64 ((rd_T43 l0 x10_1).f0), .string ((rd_T43 l0 x10_1).f1), .int .i64 ((rd_T43 l0 x10_1).f2), .slice A124_3 ((rd_T43 l0 x10_1).f3).length c124_3] 43 (0, 0))) := ⟨by (with_reducible repeat (first | refine blk_drewN ?_ _ | refine blk_drew ?_ | refine blk_alloc ?_ _)); refine blk_put (cs := #[.int .i64 ((rd_T43 l0 x10_1).f0), .string ((rd_T43 l0 x10_1).f1), .int .i64 ((rd_T43 l0 x10_1).f2), .slice none 0 0]) ?_ 3 _ qD62; (with_reducible repeat (first | refine blk_drewN ?_ _ | refine blk_drew ?_ | refine blk_alloc ?_ _)); refine blk_put (cs := #[.int .i64 ((rd_T43 l0 x10_1).f0), .string ((rd_T43 l0 x10_1).f1), .int .i64 0, .slice none 0 0]) ?_ 2 _ qD62; (with_reducible repeat (first | refine blk_drewN ?_ _ | refine blk_drew ?_ | refine blk_alloc ?_ _)); refine blk_put (cs := #[.int .i64 ((rd_T43 l0 x10_1).f0), .string (⟨#[]⟩ : ByteArray), .int .i64 0, .slice none 0 0]) ?_ 1 _ qD62; (with_reducible repeat (first | refine blk_drewN ?_ _ | refine blk_drew ?_ | refine blk_alloc ?_ _)); refine blk_put (cs := #[.int .i64 0, .string (⟨#[]⟩ : ByteArray), .int .i64 0, .slice none 0 0]) ?_ 0 _ qD62; (with_reducible repeat (first | refine blk_drewN ?_ _ | refine blk_drew ?_ | refine blk_alloc ?_ _)); exact BK125.out⟩; have n1_ : Aside0 (Below w.heap.size w ((((w16.setCell ⟨gb125, 0, none⟩ (.int .i64 ((rd_T43 l0 x10_1).f0))).setCell ⟨gb125, 1, none⟩ (.string ((rd_T43 l0 x10_1).f1))).setCell ⟨gb125, 2, none⟩ (.int .i64 ((rd_T43 l0 x10_1).f2))).setCell ⟨gb125, 3, none⟩ (.slice A124_3 ((rd_T43 l0 x10_1).f3).length c124_3))) := ⟨qD60⟩
               (try clear BK125)
               (try clear HB)
               generalize ((((w16.setCell ⟨gb125, 0, none⟩ (.int .i64 ((rd_T43 l0 x10_1).f0))).setCell ⟨gb125, 1, none⟩ (.string ((rd_T43 l0 x10_1).f1))).setCell ⟨gb125, 2, none⟩ (.int .i64 ((rd_T43 l0 x10_1).f2))).setCell ⟨gb125, 3, none⟩ (.slice A124_3 ((rd_T43 l0 x10_1).f3).length c124_3)) = w18 at n0_ n1_ ⊢
               have BK125 := n0_; have HB := n1_; clear n0_ n1_; have n0_ := Aside0.mk (blk_drew BK125.out); have n1_ := Aside0.mk (below_drew1 HB.out); clear BK125; clear HB; have BK125 := n0_; have HB := n1_; clear n0_ n1_; have q20 : (x10_1 : Int) ≤ ((l0.length : Int) : Int) := of_decide_eq_true qD63; obtain ⟨i020, hi020, _, hsz20, _⟩ := info_parts info43; have hroom20 : l0.length ≤ c0 := HC0.out; have hC20 : Kd.C k43 _ (some ad124) l0.length l0 := HR0.out; have hcut20 := cut_to (P := Tryd.prog) 22 43 .i64 Tryd.underlying22 hi020 (some ad124) l0.length c0 x10_1 (of_decide_eq_true qD63) q20 hroom20; have hr20 := Kd.C_take (m := (x10_1 : Int).toNat) hC20 (by omega); have hy20 : y126.length = (x10_1 : Int).toNat := (by rw [Ny126.out, List.length_take]; omega)
               rw [← Ny126.out] at hr20
               rw [← hy20] at hcut20
               have HR129 := Aside0.mk hr20; have HC129 := Aside0.mk (show y126.length ≤ c0 from by omega); clear hr20 hC20 hroom20 hi020 hsz20; have KY20 := Aside0.mk hy20; clear hy20; replace q20 := eq_true q20
               refine start_ (n := 6) (S := fun w' => w'.cell? ⟨gb125, 0, none⟩ = some (.int .i64 ((rd_T43 l0 x10_1).f0)) ∧ w'.cell? ⟨gb125, 1, none⟩ = some (.string ((rd_T43 l0 x10_1).f1)) ∧ w'.cell? ⟨gb125, 2, none⟩ = some (.int .i64 ((rd_T43 l0 x10_1).f2)) ∧ w'.cell? ⟨gb125, 3, none⟩ = some (.slice A124_3 ((rd_T43 l0 x10_1).f3).length c124_3)) (ds := []) bD60 (by kernel_rfl) rfl rfl ⟨(blk_cell BK125.out 0).trans rfl, (blk_cell BK125.out 1).trans rfl, (blk_cell BK125.out 2).trans rfl, (blk_cell BK125.out 3).trans rfl⟩ (fun hHeld => ?_)
               generalize w18.drew = w19 at BK125 HB HR129 hHeld ⊢
               refine pure_ (i := 0) (N := some 15) (v := ?_) (a' := ?_) bD61 rfl rfl (by kernel_rfl) (fun _ _ _ h => h) (Or.inl ⟨by rfl, ?_⟩) ?_ ?_
               rotate_left
               · intro w'
                 go_simp
                 with_reducible rfl
               rotate_left
               · exact qsD60
               refine pure_ (i := 1) (N := some 16) (v := ?_) (a' := ?_) bD62 rfl rfl (by kernel_rfl) (fun _ _ _ h => h) (Or.inl ⟨by rfl, ?_⟩) ?_ ?_
               rotate_left
               · intro w'
                 go_simp
                 with_reducible rfl
               rotate_left
               · exact qsD60
               refine pure_ (i := 2) (N := some 17) (v := ?_) (a' := ?_) bD63 rfl rfl (by kernel_rfl) (fun _ _ _ h => h) (Or.inl ⟨by rfl, ?_⟩) ?_ ?_
               rotate_left
               · intro w'
                 go_simp
                 with_reducible rfl
               rotate_left
               · exact qsD60
               refine take_ (i := 3) (N := some 18) (v := ?_) (a' := ?_) bD64 rfl rfl (by kernel_rfl) (fun _ _ _ h => h) (Or.inl ⟨by rfl, ?_⟩) hHeld ?_ ?_
               rotate_left
               · rintro w' ⟨s0, s1, s2, s3⟩
                 go_simp
                 with_reducible rfl
               rotate_left
               · exact qsD60
               refine one_ (i := 4) (N := some 19) bD65 rfl rfl (by kernel_rfl) (by decide) (fun K hK => ?_)
               refine goes_ Tryd.func35 (by kernel_rfl) rfl #[.slice (some ad124) y126.length c0, .agg #[.int .i64 ((rd_T43 l0 x10_1).f0), .string ((rd_T43 l0 x10_1).f1), .int .i64 ((rd_T43 l0 x10_1).f2), .slice A124_3 ((rd_T43 l0 x10_1).f3).length c124_3]] (by rfl) rfl rfl qD67 ?_
               with_reducible refine (dag_right.calls k1 _ _ y126 ((rd_T43 l0 x10_1).f0) ((rd_T43 l0 x10_1).f1) ((rd_T43 l0 x10_1).f2) _ _ ((rd_T43 l0 x10_1).f3) false _ ?side1 ?side2 ?side3 ?side4 A8.out ?side5).mono ?_
               (case side1 => exact qD65)
               (case side2 => exact HC129.out)
               (case side3 => exact qD64)
               (case side4 => exact HC124_3.out)
               (case side5 => exact Aside0.mk (Laid.below HG.out qD60))
               rintro e w21 ⟨rfl, hb⟩
               refine ⟨_, rfl, ?_⟩
               have n0_ := Aside0.mk (blk_below (g := gb125) (o := .cells #[.int .i64 ((rd_T43 l0 x10_1).f0), .string ((rd_T43 l0 x10_1).f1), .int .i64 ((rd_T43 l0 x10_1).f2), .slice A124_3 ((rd_T43 l0 x10_1).f3).length c124_3] 43 (0, 0)) (by (with_reducible repeat (first | refine blk_drewN ?_ _ | refine blk_drew ?_ | refine blk_alloc ?_ _)); exact BK125.out) hb); have n1_ := Aside0.mk (below_step qD60 hb); clear BK125; clear HB; have BK125 := n0_; have HB := n1_; clear n0_ n1_
               (try clear hb)
               (try clear hb2)
               (try clear hk)
               (try clear hi)
               refine hK.out _ _ ⟨(blk_cell BK125.out 0).trans rfl, (blk_cell BK125.out 1).trans rfl, (blk_cell BK125.out 2).trans rfl, (blk_cell BK125.out 3).trans rfl⟩ (fun hHeld => ?_)
               clear hK K
               refine norm_ (a' := ?_) ?_ ?_
               rotate_left
               · show Act.put _ (some 19) _ = _
                 simp only [Act.put, List.setIfInBounds_toArray, List.set_cons_zero, List.set_cons_succ, i64_w, i32_w]
                 rfl
               refine pure_ (i := 5) (N := some 20) (v := ?_) (a' := ?_) bD66 rfl rfl (by kernel_rfl) (fun _ _ _ h => h) (Or.inl ⟨by rfl, ?_⟩) ?_ ?_
               rotate_left
               · intro w'
                 go_simp
                 with_reducible rfl
               rotate_left
               · exact qsD60
               refine done_ (by kernel_rfl) ?_
               try go_wp2
               go_ret
               exact ⟨qD66, qD60⟩
           · rw [if_neg c7] at H
             exact absurd H (by simp)
         · rw [if_neg c5] at H
           exact absurd H (by simp)
       · rw [if_neg c4] at H
         exact absurd H (by simp)
     · rw [if_neg c3] at H
       have c3b0 : decide (x10_1 < (l0.length : Int)) = false := decide_eq_false c3; clear c3; obtain rfl := Option.some.inj H
       go_wp2
       go_ret
       exact ⟨qD66, qD61⟩

end Go.Proofs.YtgopimjfoppkmaaDoor.D
