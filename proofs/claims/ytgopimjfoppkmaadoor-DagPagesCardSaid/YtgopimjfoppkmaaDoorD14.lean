/- Printed functions, each with a proof that the call answers so. -/
import Derived.Test.YtgopimjfoppkmaaDoorD0
import Derived.Test.YtgopimjfoppkmaaDoorD11
import Derived.Test.YtgopimjfoppkmaaDoorD13
namespace Go.Proofs.YtgopimjfoppkmaaDoor.D
open Go.RowKit Go.Proofs.YtgopimjfoppkmaaDoorW.PrintWords Go.Proofs.YtgopimjfoppkmaaDoorW.PrintLast Go.Proofs.YtgopimjfoppkmaaDoorW.PrintMore
attribute [local go_sem] max2_int min2_int max_two min_two max_three min_three max_four min_four   -- for this text's walks alone
set_option linter.unusedVariables false
set_option linter.unusedSimpArgs false

theorem mRD14 {p q : Prop} (x : q) (h : q → p := by intro x_; (with_reducible repeat (first | apply Kd.R_alloc | apply Kd.R_drewN | apply Kd.R_drew)); exact x_) : p := h x
abbrev bD140 : Array Bool := #[false, false, false, false, false, false]
abbrev bD141 : Array Bool := #[true, false, false, false, false, false]
abbrev bD142 : Array Bool := #[true, true, false, false, false, false]
abbrev bD143 : Array Bool := #[true, true, true, false, false, false]
abbrev bD144 : Array Bool := #[true, true, true, true, false, false]
abbrev bD145 : Array Bool := #[true, true, true, true, true, false]
abbrev bD146 : Array Bool := #[true, true, true, true, true, true]
theorem qsD140 {p : Prop} (h : p := by simp only [Act.put, List.setIfInBounds_toArray, List.set_cons_zero, List.set_cons_succ, i64_w, i32_w]; rfl) : p := h
theorem qD140 {p : Prop} (h : p := by repeat (first | (with_reducible first | exact HB.out | apply below_alloc | apply pw_below_drewN | apply below_drew1) | exact HB.out)) : p := h
theorem qD141 {p : Prop} (h : p := by repeat (first | (with_reducible first | exact HB.out | apply below_alloc | apply pw_below_drewN | apply below_drew1 | refine below_set ?_ GE294.out) | exact HB.out)) : p := h
theorem qD142 {p : Prop} (h : p := by repeat (first | (with_reducible first | exact HB.out | apply below_alloc | apply pw_below_drewN | apply below_drew1 | refine below_set ?_ GE283.out) | exact HB.out)) : p := h
theorem qD143 {p : Prop} (h : p := by first | (with_reducible assumption) | assumption) : p := h
theorem qD144 {p : Prop} (h : p := by (with_reducible repeat (first | refine blk_drewN ?_ _ | refine blk_drew ?_ | refine blk_alloc ?_ _)); exact BK294.out) : p := h
theorem qD145 {p : Prop} (h : p := by repeat (first | (with_reducible first | exact HB.out | apply below_alloc | apply pw_below_drewN | apply below_drew1 | refine below_set ?_ GE294.out | refine below_set ?_ GE296.out) | exact HB.out)) : p := h
theorem qD146 {p : Prop} (h : p := by first | rfl | (simp only [*]; done) | (simp only [*]; rfl)) : p := h
theorem qD147 {p : Prop} (h : p := by first | rfl | (simp; done) | (simp [*]; done)) : p := h
theorem qD148 {p : Prop} (h : p := by first | rfl | (simp [errW_none, errW_some] <;> rfl) | (simp [*, errW_none, errW_some] <;> rfl)) : p := h
theorem qD149 {p : Prop} (h : p := by repeat (first | exact (Kd.C_below HR282_3.out HB.out) | (with_reducible refine Kd.C_alloc ?_ _) | (with_reducible refine Kd.C_drewN ?_ _) | (with_reducible refine Kd.C_drew ?_))) : p := h
theorem qD1410 {p : Prop} (h : p := by repeat (first | exact (Kd.C_below HR287.out HB.out) | (with_reducible refine Kd.C_alloc ?_ _) | (with_reducible refine Kd.C_drewN ?_ _) | (with_reducible refine Kd.C_drew ?_))) : p := h
theorem qD1411 {p : Prop} (h : p := by first | exact Kd.R_nil _ _ _ _ _ | exact Kd.N_nil _ _ _ _ _ | exact Kd.V_nil _ _ _ _ _ | exact Kd.Q_nil _ _ _ _ _ | exact Kd.S_nil _ _ _ _ _) : p := h
theorem qD1412 {p : Prop} (h : p := by (try simp only [List.map_toArray, List.map_cons, List.map_nil]); first | done | rfl | (simp only [List.length_drop, List.length_take]; rfl)) : p := h
theorem qD1413 {p : Prop} (h : p := by first | (go_simp; done) | (go_simp; rfl)) : p := h
theorem qD1414 {p : Prop} (h : p := by exact ⟨_, qD148, by (with_reducible repeat (first | apply Kd.R_alloc | apply Kd.R_drewN | apply Kd.R_drew)); exact HO_5.out, qD140⟩) : p := h
/-! ### rectoref31_Check: function 13 -/
def rectoref31_Check.l0 : Nat → List (S48) → List (S48) → Int → Int → Option (Int)
 | 0, _, _, _, _ => none
 | k + 1, x0, x8, x9, x10 => if x10 < x9 then (if 0 ≤ x10 then (if x10 < (x8.length : Int) then (if x10 ≤ (x0.length : Int) then ((rectoref31_Right.f k (x0.take (x10 : Int).toNat) ((rd_T48 x8 x10).f0) ((rd_T48 x8 x10).f1) ((rd_T48 x8 x10).f2) ((rd_T48 x8 x10).f3)).bind fun t288 => (if t288 = true then (rectoref31_Check.l0 k x0 x8 x9 (wrap64 (x10 + 1))) else (some 4))) else (none)) else (none)) else (none)) else (some 0)
def rectoref31_Check.f (k : Nat) (l0 : List (S48)) : Option (Int) := if (l0.length : Int) > 1000 then (some 2) else (rectoref31_Check.l0 k l0 l0 (l0.length : Int) 0)
theorem rectoref31_Check.mono_l : ∀ k, (∀ y0 y1 y2 y3, LeO (rectoref31_Check.l0 k y0 y1 y2 y3) (rectoref31_Check.l0 (k + 1) y0 y1 y2 y3))
 | 0 => fun _ _ _ _ r h => by simp [rectoref31_Check.l0] at h
 | k + 1 => by
  have ih0 := rectoref31_Check.mono_l k
  · intro y0 y1 y2 y3
    unfold rectoref31_Check.l0
    repeat' first
    | (with_reducible exact ih0 _ _ _ _)
    | (with_reducible exact rectoref31_Right.mono _ _ _ _ _ _)
    | (with_reducible exact LeO.refl _)
    | (with_reducible exact LeO.none _)
    | (with_reducible refine LeO.ite ?_ ?_)
    | (with_reducible refine LeO.bind ?_ (fun _ => ?_))
    | exact ih0 _ _ _ _
    | exact rectoref31_Right.mono _ _ _ _ _ _
    | exact LeO.none _
    | refine LeO.ite ?_ ?_
    | refine LeO.bind ?_ (fun _ => ?_)
theorem rectoref31_Check.mono : ∀ a0 k, LeO (rectoref31_Check.f k a0) (rectoref31_Check.f (k + 1) a0) := by
 intro a0 k
 have ih0 := rectoref31_Check.mono_l k; unfold rectoref31_Check.f
 repeat' first
  | (with_reducible exact ih0 _ _ _ _)
  | (with_reducible exact rectoref31_Right.mono _ _ _ _ _ _)
  | (with_reducible exact LeO.refl _)
  | (with_reducible exact LeO.none _)
  | (with_reducible refine LeO.ite ?_ ?_)
  | (with_reducible refine LeO.bind ?_ (fun _ => ?_))
  | exact ih0 _ _ _ _
  | exact rectoref31_Right.mono _ _ _ _ _ _
  | exact LeO.none _
  | refine LeO.ite ?_ ?_
  | refine LeO.bind ?_ (fun _ => ?_)
set_option maxHeartbeats 8000000 in
set_option maxRecDepth 100000 in
theorem rectoref31_Check.calls (k : Nat) (A0 : Option Addr) (c0 : Nat) (l0 : List (S48)) (r : Int) (w : World) (hr0 : Kd.C k48 w A0 l0.length l0) (hc0 : l0.length ≤ c0) (h : rectoref31_Check.f k l0 = some r) (HG : Aside0 (Laid w)) :
 Calls Tryd.prog 13 #[.slice A0 l0.length c0] w fun e w' => e = .returned (.int .i64 r) ∧ Below w.heap.size w w' := by
 have hu48 := Tryd.underlying48; have HR0 := Aside0.mk hr0; have HC0 := Aside0.mk hc0; clear hr0 hc0; have HB := Aside0.mk (Below.refl w.heap.size w)
 have H : (if (l0.length : Int) > 1000 then (some 2) else (rectoref31_Check.l0 k l0 l0 (l0.length : Int) 0)) = some r := h
 clear h
 by_cases c2 : (l0.length : Int) > 1000
 · rw [if_pos c2] at H
   have c2b0 : decide (1000 < (l0.length : Int)) = true := decide_eq_true c2; have c2b1 : decide (1000 < l0.length) = true := decide_eq_true (by omega); clear c2; obtain rfl := Option.some.inj H
   go_enter Tryd.func13, Tryd.ntmps13
   go_wp2
   go_ret
   exact ⟨qD148, qD140⟩
 · rw [if_neg c2] at H
   have c2b0 : decide (1000 < (l0.length : Int)) = false := decide_eq_false c2; have c2b1 : decide (1000 < l0.length) = false := decide_eq_false (by omega); clear c2; have H' := Aside0.mk H; clear H
   go_enter Tryd.func13, Tryd.ntmps13
   go_wp2
   go_loopg [10] k (fun kq v10 w' => ∃ (x10_1 : Int), v10 = .int .i64 x10_1 ∧ Aside0 (rectoref31_Check.l0 kq l0 l0 (l0.length : Int) x10_1 = some r) ∧ Aside0 (kq ≤ k) ∧ Aside0 (Below w.heap.size w w'))
   case atStart => exact ⟨(0), qD147, H', ⟨Nat.le_refl _⟩, ⟨qD140⟩⟩
   case round =>
    clear H'; (try clear c1); (try clear c2); (try clear c2b0); (try clear c2b1); (try clear p2); obtain ⟨x10_1, rfl, HA, HK1, HB⟩ := hrel
    cases gk with
    | zero => exact absurd HA.out (by simp [rectoref31_Check.l0])
    | succ k1 =>
     have H := HA.out; clear HA; simp only [rectoref31_Check.l0] at H
     by_cases c3 : x10_1 < (l0.length : Int)
     · rw [if_pos c3] at H
       have c3b0 : decide (x10_1 < (l0.length : Int)) = true := decide_eq_true c3; clear c3
       by_cases c4 : 0 ≤ x10_1
       · rw [if_pos c4] at H
         have c4b0 : decide (0 ≤ x10_1) = true := decide_eq_true c4; clear c4
         by_cases c5 : x10_1 < (l0.length : Int)
         · rw [if_pos c5] at H
           have c5b0 : decide (x10_1 < (l0.length : Int)) = true := decide_eq_true c5; clear c5; have c6b0 := eq_true (of_decide_eq_true qD143 : 0 ≤ x10_1)
           by_cases c7 : x10_1 ≤ (l0.length : Int)
           · rw [if_pos c7] at H
             have c7b0 := eq_true c7; have c7b1 : decide (x10_1 ≤ (l0.length : Int)) = true := decide_eq_true c7; clear c7; obtain ⟨y284, hy284⟩ : ∃ y_ : List (S48), y_ = (l0.take (x10_1 : Int).toNat) := ⟨_, rfl⟩
             replace H : ((rectoref31_Right.f k1 y284 ((rd_T48 l0 x10_1).f0) ((rd_T48 l0 x10_1).f1) ((rd_T48 l0 x10_1).f2) ((rd_T48 l0 x10_1).f3)).bind fun t288 => (if t288 = true then (rectoref31_Check.l0 k1 l0 l0 (l0.length : Int) (wrap64 (x10_1 + 1))) else (some 4))) = some r := by first | (rw [hy284]; with_reducible exact H) | (have H2_ := (Option.bind_some _ _).symm.trans H; rw [hy284]; with_reducible exact H2_) | (have H2_ := (Option.bind_some _ _).symm.trans H; with_reducible exact H2_) | with_reducible exact H | (rw [hy284]; exact H) | exact H
             have Ny284 := Aside0.mk hy284; clear hy284; replace H := Option.bind_eq_some_iff.mp H; obtain ⟨t288, A80, H⟩ := H
             replace H : (if t288 = true then (rectoref31_Check.l0 k1 l0 l0 (l0.length : Int) (wrap64 (x10_1 + 1))) else (some 4)) = some r := H
             have A8 := Aside0.mk A80; clear A80
             by_cases c9 : t288 = true
             · subst c9
               have H1 : (rectoref31_Check.l0 k1 l0 l0 (l0.length : Int) (wrap64 (x10_1 + 1))) = some r := by rw [if_pos rfl] at H; exact H
               clear H; have H := H1; clear H1; have H' := Aside0.mk H; clear H; have p282 : 0 ≤ (x10_1 : Int) := of_decide_eq_true qD143; have q282 : x10_1 < (l0.length : Int) := of_decide_eq_true qD143; obtain ⟨ad282, A282_3, c282_3, e282, hx282_0, hx282_1, hx282_2, hx282_3, hl282_3, hi282_3⟩ := at_T48 HR0.out x10_1 p282 q282; cases e282; replace hx282_0 := (HB.out.cell (World.block_lt_of_cell? w _ hx282_0)).trans hx282_0; replace hx282_1 := (HB.out.cell (World.block_lt_of_cell? w _ hx282_1)).trans hx282_1; replace hx282_2 := (HB.out.cell (World.block_lt_of_cell? w _ hx282_2)).trans hx282_2; replace hx282_3 := (HB.out.cell (World.block_lt_of_cell? w _ hx282_3)).trans hx282_3; have HR282_3 := Aside0.mk hi282_3; have HC282_3 := Aside0.mk hl282_3; clear hi282_3 hl282_3; replace p282 := eq_true p282; replace q282 := eq_true q282
               try go_wp2_with (first | ((with_reducible refine gate_dst (N := 4) rfl ?_); refine box_event ?hg (N := 4) ?hd (cs := #[.int .i64 0, .string (⟨#[]⟩ : ByteArray), .int .i64 0, .slice none 0 0]) (t := 48) ?hr ?_; (case hd => rfl); (case hg => rfl); (case hr => exact qD1413); intro gb283 hg w10 hbox hb; have n0_ := Aside0.mk (below_step qD140 hb); have n1_ := Aside0.mk (hbox); have n2_ := Aside0.mk ((by rw [hg]; exact (below_size qD140) : w.heap.size ≤ gb283)); have n3_ := Aside0.mk ((by rw [hg]; exact (below_size qD140) : w.heap.size ≤ gb283)); clear HB; have HB := n0_; have BK283 := n1_; have GW283 := n2_; have GE283 := n3_; clear n0_ n1_ n2_ n3_; clear hb hbox hg; have hcz11_0 : w10.cell? ⟨gb283, 0, none⟩ = some (.int .i64 0) := (blk_cell BK283.out 0).trans rfl; have hcz11_1 : w10.cell? ⟨gb283, 1, none⟩ = some (.string (⟨#[]⟩ : ByteArray)) := (blk_cell BK283.out 1).trans rfl; have hcz11_2 : w10.cell? ⟨gb283, 2, none⟩ = some (.int .i64 0) := (blk_cell BK283.out 2).trans rfl; have hcz11_3 : w10.cell? ⟨gb283, 3, none⟩ = some (.slice none 0 0) := (blk_cell BK283.out 3).trans rfl; have hfz11_0 := blk_frozen BK283.out 0; have hfz11_1 := blk_frozen BK283.out 1; have hfz11_2 := blk_frozen BK283.out 2; have hfz11_3 := blk_frozen BK283.out 3))
               have n0_ : Aside0 (((((w10.setCell ⟨gb283, 0, none⟩ (.int .i64 ((rd_T48 l0 x10_1).f0))).setCell ⟨gb283, 1, none⟩ (.string ((rd_T48 l0 x10_1).f1))).setCell ⟨gb283, 2, none⟩ (.int .i64 ((rd_T48 l0 x10_1).f2))).setCell ⟨gb283, 3, none⟩ (.slice A282_3 ((rd_T48 l0 x10_1).f3).length c282_3)).heap[gb283]? = some (.cells #[.int .i64 ((rd_T48 l0 x10_1).f0), .string ((rd_T48 l0 x10_1).f1), .int .i64 ((rd_T48 l0 x10_1).f2), .slice A282_3 ((rd_T48 l0 x10_1).f3).length c282_3] 48 (0, 0))) := ⟨by (with_reducible repeat (first | refine blk_drewN ?_ _ | refine blk_drew ?_ | refine blk_alloc ?_ _)); refine blk_put (cs := #[.int .i64 ((rd_T48 l0 x10_1).f0), .string ((rd_T48 l0 x10_1).f1), .int .i64 ((rd_T48 l0 x10_1).f2), .slice none 0 0]) ?_ 3 _ qD146; (with_reducible repeat (first | refine blk_drewN ?_ _ | refine blk_drew ?_ | refine blk_alloc ?_ _)); refine blk_put (cs := #[.int .i64 ((rd_T48 l0 x10_1).f0), .string ((rd_T48 l0 x10_1).f1), .int .i64 0, .slice none 0 0]) ?_ 2 _ qD146; (with_reducible repeat (first | refine blk_drewN ?_ _ | refine blk_drew ?_ | refine blk_alloc ?_ _)); refine blk_put (cs := #[.int .i64 ((rd_T48 l0 x10_1).f0), .string (⟨#[]⟩ : ByteArray), .int .i64 0, .slice none 0 0]) ?_ 1 _ qD146; (with_reducible repeat (first | refine blk_drewN ?_ _ | refine blk_drew ?_ | refine blk_alloc ?_ _)); refine blk_put (cs := #[.int .i64 0, .string (⟨#[]⟩ : ByteArray), .int .i64 0, .slice none 0 0]) ?_ 0 _ qD146; (with_reducible repeat (first | refine blk_drewN ?_ _ | refine blk_drew ?_ | refine blk_alloc ?_ _)); exact BK283.out⟩; have n1_ : Aside0 (Below w.heap.size w ((((w10.setCell ⟨gb283, 0, none⟩ (.int .i64 ((rd_T48 l0 x10_1).f0))).setCell ⟨gb283, 1, none⟩ (.string ((rd_T48 l0 x10_1).f1))).setCell ⟨gb283, 2, none⟩ (.int .i64 ((rd_T48 l0 x10_1).f2))).setCell ⟨gb283, 3, none⟩ (.slice A282_3 ((rd_T48 l0 x10_1).f3).length c282_3))) := ⟨qD142⟩
               (try clear BK283)
               (try clear HB)
               generalize ((((w10.setCell ⟨gb283, 0, none⟩ (.int .i64 ((rd_T48 l0 x10_1).f0))).setCell ⟨gb283, 1, none⟩ (.string ((rd_T48 l0 x10_1).f1))).setCell ⟨gb283, 2, none⟩ (.int .i64 ((rd_T48 l0 x10_1).f2))).setCell ⟨gb283, 3, none⟩ (.slice A282_3 ((rd_T48 l0 x10_1).f3).length c282_3)) = w12 at n0_ n1_ ⊢
               have BK283 := n0_; have HB := n1_; clear n0_ n1_; have n0_ := Aside0.mk (blk_drew BK283.out); have n1_ := Aside0.mk (below_drew1 HB.out); clear BK283; clear HB; have BK283 := n0_; have HB := n1_; clear n0_ n1_; have q14 : (x10_1 : Int) ≤ ((l0.length : Int) : Int) := of_decide_eq_true qD143; obtain ⟨i014, hi014, _, hsz14, _⟩ := info_parts info48; have hroom14 : l0.length ≤ c0 := HC0.out; have hC14 : Kd.C k48 _ (some ad282) l0.length l0 := HR0.out; have hcut14 := cut_to (P := Tryd.prog) 25 48 .i64 Tryd.underlying25 hi014 (some ad282) l0.length c0 x10_1 (of_decide_eq_true qD143) q14 hroom14; have hr14 := Kd.C_take (m := (x10_1 : Int).toNat) hC14 (by omega); have hy14 : y284.length = (x10_1 : Int).toNat := (by rw [Ny284.out, List.length_take]; omega)
               rw [← Ny284.out] at hr14
               rw [← hy14] at hcut14
               have HR287 := Aside0.mk hr14; have HC287 := Aside0.mk (show y284.length ≤ c0 from by omega); clear hr14 hC14 hroom14 hi014 hsz14; have KY14 := Aside0.mk hy14; clear hy14; replace q14 := eq_true q14
               refine start_ (n := 6) (S := fun w' => w'.cell? ⟨gb283, 0, none⟩ = some (.int .i64 ((rd_T48 l0 x10_1).f0)) ∧ w'.cell? ⟨gb283, 1, none⟩ = some (.string ((rd_T48 l0 x10_1).f1)) ∧ w'.cell? ⟨gb283, 2, none⟩ = some (.int .i64 ((rd_T48 l0 x10_1).f2)) ∧ w'.cell? ⟨gb283, 3, none⟩ = some (.slice A282_3 ((rd_T48 l0 x10_1).f3).length c282_3)) (ds := []) bD140 (by kernel_rfl) rfl rfl ⟨(blk_cell BK283.out 0).trans rfl, (blk_cell BK283.out 1).trans rfl, (blk_cell BK283.out 2).trans rfl, (blk_cell BK283.out 3).trans rfl⟩ (fun hHeld => ?_)
               generalize w12.drew = w13 at BK283 HB HR287 hHeld ⊢
               refine pure_ (i := 0) (N := some 15) (v := ?_) (a' := ?_) bD141 rfl rfl (by kernel_rfl) (fun _ _ _ h => h) (Or.inl ⟨by rfl, ?_⟩) ?_ ?_
               rotate_left
               · intro w'
                 go_simp
                 with_reducible rfl
               rotate_left
               · exact qsD140
               refine pure_ (i := 1) (N := some 16) (v := ?_) (a' := ?_) bD142 rfl rfl (by kernel_rfl) (fun _ _ _ h => h) (Or.inl ⟨by rfl, ?_⟩) ?_ ?_
               rotate_left
               · intro w'
                 go_simp
                 with_reducible rfl
               rotate_left
               · exact qsD140
               refine pure_ (i := 2) (N := some 17) (v := ?_) (a' := ?_) bD143 rfl rfl (by kernel_rfl) (fun _ _ _ h => h) (Or.inl ⟨by rfl, ?_⟩) ?_ ?_
               rotate_left
               · intro w'
                 go_simp
                 with_reducible rfl
               rotate_left
               · exact qsD140
               refine take_ (i := 3) (N := some 18) (v := ?_) (a' := ?_) bD144 rfl rfl (by kernel_rfl) (fun _ _ _ h => h) (Or.inl ⟨by rfl, ?_⟩) hHeld ?_ ?_
               rotate_left
               · rintro w' ⟨s0, s1, s2, s3⟩
                 go_simp
                 with_reducible rfl
               rotate_left
               · exact qsD140
               refine one_ (i := 4) (N := some 19) bD145 rfl rfl (by kernel_rfl) (by decide) (fun K hK => ?_)
               refine goes_ Tryd.func31 (by kernel_rfl) rfl #[.slice (some ad282) y284.length c0, .agg #[.int .i64 ((rd_T48 l0 x10_1).f0), .string ((rd_T48 l0 x10_1).f1), .int .i64 ((rd_T48 l0 x10_1).f2), .slice A282_3 ((rd_T48 l0 x10_1).f3).length c282_3]] (by rfl) rfl rfl qD1412 ?_
               with_reducible refine (rectoref31_Right.calls k1 _ _ y284 ((rd_T48 l0 x10_1).f0) ((rd_T48 l0 x10_1).f1) ((rd_T48 l0 x10_1).f2) _ _ ((rd_T48 l0 x10_1).f3) true _ ?side1 ?side2 ?side3 ?side4 A8.out ?side5).mono ?_
               (case side1 => exact qD1410)
               (case side2 => exact HC287.out)
               (case side3 => exact qD149)
               (case side4 => exact HC282_3.out)
               (case side5 => exact Aside0.mk (Laid.below HG.out qD142))
               rintro e w15 ⟨rfl, hb⟩
               refine ⟨_, rfl, ?_⟩
               have n0_ := Aside0.mk (blk_below (g := gb283) (o := .cells #[.int .i64 ((rd_T48 l0 x10_1).f0), .string ((rd_T48 l0 x10_1).f1), .int .i64 ((rd_T48 l0 x10_1).f2), .slice A282_3 ((rd_T48 l0 x10_1).f3).length c282_3] 48 (0, 0)) (by (with_reducible repeat (first | refine blk_drewN ?_ _ | refine blk_drew ?_ | refine blk_alloc ?_ _)); exact BK283.out) hb); have n1_ := Aside0.mk (below_step qD142 hb); clear BK283; clear HB; have BK283 := n0_; have HB := n1_; clear n0_ n1_
               (try clear hb)
               (try clear hb2)
               (try clear hk)
               (try clear hi)
               refine hK.out _ _ ⟨(blk_cell BK283.out 0).trans rfl, (blk_cell BK283.out 1).trans rfl, (blk_cell BK283.out 2).trans rfl, (blk_cell BK283.out 3).trans rfl⟩ (fun hHeld => ?_)
               clear hK K
               refine norm_ (a' := ?_) ?_ ?_
               rotate_left
               · show Act.put _ (some 19) _ = _
                 simp only [Act.put, List.setIfInBounds_toArray, List.set_cons_zero, List.set_cons_succ, i64_w, i32_w]
                 rfl
               refine pure_ (i := 5) (N := some 20) (v := ?_) (a' := ?_) bD146 rfl rfl (by kernel_rfl) (fun _ _ _ h => h) (Or.inl ⟨by rfl, ?_⟩) ?_ ?_
               rotate_left
               · intro w'
                 go_simp
                 with_reducible rfl
               rotate_left
               · exact qsD140
               refine done_ (by kernel_rfl) ?_
               try go_wp2
               go_roundg k1
               case measure => have := HK1.out; omega
               case rel => exact ⟨(wrap64 (x10_1 + 1)), qD147, H', ⟨by have := HK1.out; omega⟩, ⟨qD142⟩⟩
             · replace c9 := Bool.eq_false_iff.mpr c9
               subst c9
               have H1 : (some 4) = some r := by rw [if_neg (show ¬ (false = true) by decide)] at H; exact H
               clear H; have H := H1; clear H1; obtain rfl := Option.some.inj H; have p282 : 0 ≤ (x10_1 : Int) := of_decide_eq_true qD143; have q282 : x10_1 < (l0.length : Int) := of_decide_eq_true qD143; obtain ⟨ad282, A282_3, c282_3, e282, hx282_0, hx282_1, hx282_2, hx282_3, hl282_3, hi282_3⟩ := at_T48 HR0.out x10_1 p282 q282; cases e282; replace hx282_0 := (HB.out.cell (World.block_lt_of_cell? w _ hx282_0)).trans hx282_0; replace hx282_1 := (HB.out.cell (World.block_lt_of_cell? w _ hx282_1)).trans hx282_1; replace hx282_2 := (HB.out.cell (World.block_lt_of_cell? w _ hx282_2)).trans hx282_2; replace hx282_3 := (HB.out.cell (World.block_lt_of_cell? w _ hx282_3)).trans hx282_3; have HR282_3 := Aside0.mk hi282_3; have HC282_3 := Aside0.mk hl282_3; clear hi282_3 hl282_3; replace p282 := eq_true p282; replace q282 := eq_true q282
               try go_wp2_with (first | ((with_reducible refine gate_dst (N := 4) rfl ?_); refine box_event ?hg (N := 4) ?hd (cs := #[.int .i64 0, .string (⟨#[]⟩ : ByteArray), .int .i64 0, .slice none 0 0]) (t := 48) ?hr ?_; (case hd => rfl); (case hg => rfl); (case hr => exact qD1413); intro gb283 hg w16 hbox hb; have n0_ := Aside0.mk (below_step qD140 hb); have n1_ := Aside0.mk (hbox); have n2_ := Aside0.mk ((by rw [hg]; exact (below_size qD140) : w.heap.size ≤ gb283)); have n3_ := Aside0.mk ((by rw [hg]; exact (below_size qD140) : w.heap.size ≤ gb283)); clear HB; have HB := n0_; have BK283 := n1_; have GW283 := n2_; have GE283 := n3_; clear n0_ n1_ n2_ n3_; clear hb hbox hg; have hcz17_0 : w16.cell? ⟨gb283, 0, none⟩ = some (.int .i64 0) := (blk_cell BK283.out 0).trans rfl; have hcz17_1 : w16.cell? ⟨gb283, 1, none⟩ = some (.string (⟨#[]⟩ : ByteArray)) := (blk_cell BK283.out 1).trans rfl; have hcz17_2 : w16.cell? ⟨gb283, 2, none⟩ = some (.int .i64 0) := (blk_cell BK283.out 2).trans rfl; have hcz17_3 : w16.cell? ⟨gb283, 3, none⟩ = some (.slice none 0 0) := (blk_cell BK283.out 3).trans rfl; have hfz17_0 := blk_frozen BK283.out 0; have hfz17_1 := blk_frozen BK283.out 1; have hfz17_2 := blk_frozen BK283.out 2; have hfz17_3 := blk_frozen BK283.out 3))
               have n0_ : Aside0 (((((w16.setCell ⟨gb283, 0, none⟩ (.int .i64 ((rd_T48 l0 x10_1).f0))).setCell ⟨gb283, 1, none⟩ (.string ((rd_T48 l0 x10_1).f1))).setCell ⟨gb283, 2, none⟩ (.int .i64 ((rd_T48 l0 x10_1).f2))).setCell ⟨gb283, 3, none⟩ (.slice A282_3 ((rd_T48 l0 x10_1).f3).length c282_3)).heap[gb283]? = some (.cells #[.int .i64 ((rd_T48 l0 x10_1).f0), .string ((rd_T48 l0 x10_1).f1), .int .i64 ((rd_T48 l0 x10_1).f2), .slice A282_3 ((rd_T48 l0 x10_1).f3).length c282_3] 48 (0, 0))) := ⟨by (with_reducible repeat (first | refine blk_drewN ?_ _ | refine blk_drew ?_ | refine blk_alloc ?_ _)); refine blk_put (cs := #[.int .i64 ((rd_T48 l0 x10_1).f0), .string ((rd_T48 l0 x10_1).f1), .int .i64 ((rd_T48 l0 x10_1).f2), .slice none 0 0]) ?_ 3 _ qD146; (with_reducible repeat (first | refine blk_drewN ?_ _ | refine blk_drew ?_ | refine blk_alloc ?_ _)); refine blk_put (cs := #[.int .i64 ((rd_T48 l0 x10_1).f0), .string ((rd_T48 l0 x10_1).f1), .int .i64 0, .slice none 0 0]) ?_ 2 _ qD146; (with_reducible repeat (first | refine blk_drewN ?_ _ | refine blk_drew ?_ | refine blk_alloc ?_ _)); refine blk_put (cs := #[.int .i64 ((rd_T48 l0 x10_1).f0), .string (⟨#[]⟩ : ByteArray), .int .i64 0, .slice none 0 0]) ?_ 1 _ qD146; (with_reducible repeat (first | refine blk_drewN ?_ _ | refine blk_drew ?_ | refine blk_alloc ?_ _)); refine blk_put (cs := #[.int .i64 0, .string (⟨#[]⟩ : ByteArray), .int .i64 0, .slice none 0 0]) ?_ 0 _ qD146; (with_reducible repeat (first | refine blk_drewN ?_ _ | refine blk_drew ?_ | refine blk_alloc ?_ _)); exact BK283.out⟩; have n1_ : Aside0 (Below w.heap.size w ((((w16.setCell ⟨gb283, 0, none⟩ (.int .i64 ((rd_T48 l0 x10_1).f0))).setCell ⟨gb283, 1, none⟩ (.string ((rd_T48 l0 x10_1).f1))).setCell ⟨gb283, 2, none⟩ (.int .i64 ((rd_T48 l0 x10_1).f2))).setCell ⟨gb283, 3, none⟩ (.slice A282_3 ((rd_T48 l0 x10_1).f3).length c282_3))) := ⟨qD142⟩
               (try clear BK283)
               (try clear HB)
               generalize ((((w16.setCell ⟨gb283, 0, none⟩ (.int .i64 ((rd_T48 l0 x10_1).f0))).setCell ⟨gb283, 1, none⟩ (.string ((rd_T48 l0 x10_1).f1))).setCell ⟨gb283, 2, none⟩ (.int .i64 ((rd_T48 l0 x10_1).f2))).setCell ⟨gb283, 3, none⟩ (.slice A282_3 ((rd_T48 l0 x10_1).f3).length c282_3)) = w18 at n0_ n1_ ⊢
               have BK283 := n0_; have HB := n1_; clear n0_ n1_; have n0_ := Aside0.mk (blk_drew BK283.out); have n1_ := Aside0.mk (below_drew1 HB.out); clear BK283; clear HB; have BK283 := n0_; have HB := n1_; clear n0_ n1_; have q20 : (x10_1 : Int) ≤ ((l0.length : Int) : Int) := of_decide_eq_true qD143; obtain ⟨i020, hi020, _, hsz20, _⟩ := info_parts info48; have hroom20 : l0.length ≤ c0 := HC0.out; have hC20 : Kd.C k48 _ (some ad282) l0.length l0 := HR0.out; have hcut20 := cut_to (P := Tryd.prog) 25 48 .i64 Tryd.underlying25 hi020 (some ad282) l0.length c0 x10_1 (of_decide_eq_true qD143) q20 hroom20; have hr20 := Kd.C_take (m := (x10_1 : Int).toNat) hC20 (by omega); have hy20 : y284.length = (x10_1 : Int).toNat := (by rw [Ny284.out, List.length_take]; omega)
               rw [← Ny284.out] at hr20
               rw [← hy20] at hcut20
               have HR287 := Aside0.mk hr20; have HC287 := Aside0.mk (show y284.length ≤ c0 from by omega); clear hr20 hC20 hroom20 hi020 hsz20; have KY20 := Aside0.mk hy20; clear hy20; replace q20 := eq_true q20
               refine start_ (n := 6) (S := fun w' => w'.cell? ⟨gb283, 0, none⟩ = some (.int .i64 ((rd_T48 l0 x10_1).f0)) ∧ w'.cell? ⟨gb283, 1, none⟩ = some (.string ((rd_T48 l0 x10_1).f1)) ∧ w'.cell? ⟨gb283, 2, none⟩ = some (.int .i64 ((rd_T48 l0 x10_1).f2)) ∧ w'.cell? ⟨gb283, 3, none⟩ = some (.slice A282_3 ((rd_T48 l0 x10_1).f3).length c282_3)) (ds := []) bD140 (by kernel_rfl) rfl rfl ⟨(blk_cell BK283.out 0).trans rfl, (blk_cell BK283.out 1).trans rfl, (blk_cell BK283.out 2).trans rfl, (blk_cell BK283.out 3).trans rfl⟩ (fun hHeld => ?_)
               generalize w18.drew = w19 at BK283 HB HR287 hHeld ⊢
               refine pure_ (i := 0) (N := some 15) (v := ?_) (a' := ?_) bD141 rfl rfl (by kernel_rfl) (fun _ _ _ h => h) (Or.inl ⟨by rfl, ?_⟩) ?_ ?_
               rotate_left
               · intro w'
                 go_simp
                 with_reducible rfl
               rotate_left
               · exact qsD140
               refine pure_ (i := 1) (N := some 16) (v := ?_) (a' := ?_) bD142 rfl rfl (by kernel_rfl) (fun _ _ _ h => h) (Or.inl ⟨by rfl, ?_⟩) ?_ ?_
               rotate_left
               · intro w'
                 go_simp
                 with_reducible rfl
               rotate_left
               · exact qsD140
               refine pure_ (i := 2) (N := some 17) (v := ?_) (a' := ?_) bD143 rfl rfl (by kernel_rfl) (fun _ _ _ h => h) (Or.inl ⟨by rfl, ?_⟩) ?_ ?_
               rotate_left
               · intro w'
                 go_simp
                 with_reducible rfl
               rotate_left
               · exact qsD140
               refine take_ (i := 3) (N := some 18) (v := ?_) (a' := ?_) bD144 rfl rfl (by kernel_rfl) (fun _ _ _ h => h) (Or.inl ⟨by rfl, ?_⟩) hHeld ?_ ?_
               rotate_left
               · rintro w' ⟨s0, s1, s2, s3⟩
                 go_simp
                 with_reducible rfl
               rotate_left
               · exact qsD140
               refine one_ (i := 4) (N := some 19) bD145 rfl rfl (by kernel_rfl) (by decide) (fun K hK => ?_)
               refine goes_ Tryd.func31 (by kernel_rfl) rfl #[.slice (some ad282) y284.length c0, .agg #[.int .i64 ((rd_T48 l0 x10_1).f0), .string ((rd_T48 l0 x10_1).f1), .int .i64 ((rd_T48 l0 x10_1).f2), .slice A282_3 ((rd_T48 l0 x10_1).f3).length c282_3]] (by rfl) rfl rfl qD1412 ?_
               with_reducible refine (rectoref31_Right.calls k1 _ _ y284 ((rd_T48 l0 x10_1).f0) ((rd_T48 l0 x10_1).f1) ((rd_T48 l0 x10_1).f2) _ _ ((rd_T48 l0 x10_1).f3) false _ ?side1 ?side2 ?side3 ?side4 A8.out ?side5).mono ?_
               (case side1 => exact qD1410)
               (case side2 => exact HC287.out)
               (case side3 => exact qD149)
               (case side4 => exact HC282_3.out)
               (case side5 => exact Aside0.mk (Laid.below HG.out qD142))
               rintro e w21 ⟨rfl, hb⟩
               refine ⟨_, rfl, ?_⟩
               have n0_ := Aside0.mk (blk_below (g := gb283) (o := .cells #[.int .i64 ((rd_T48 l0 x10_1).f0), .string ((rd_T48 l0 x10_1).f1), .int .i64 ((rd_T48 l0 x10_1).f2), .slice A282_3 ((rd_T48 l0 x10_1).f3).length c282_3] 48 (0, 0)) (by (with_reducible repeat (first | refine blk_drewN ?_ _ | refine blk_drew ?_ | refine blk_alloc ?_ _)); exact BK283.out) hb); have n1_ := Aside0.mk (below_step qD142 hb); clear BK283; clear HB; have BK283 := n0_; have HB := n1_; clear n0_ n1_
               (try clear hb)
               (try clear hb2)
               (try clear hk)
               (try clear hi)
               refine hK.out _ _ ⟨(blk_cell BK283.out 0).trans rfl, (blk_cell BK283.out 1).trans rfl, (blk_cell BK283.out 2).trans rfl, (blk_cell BK283.out 3).trans rfl⟩ (fun hHeld => ?_)
               clear hK K
               refine norm_ (a' := ?_) ?_ ?_
               rotate_left
               · show Act.put _ (some 19) _ = _
                 simp only [Act.put, List.setIfInBounds_toArray, List.set_cons_zero, List.set_cons_succ, i64_w, i32_w]
                 rfl
               refine pure_ (i := 5) (N := some 20) (v := ?_) (a' := ?_) bD146 rfl rfl (by kernel_rfl) (fun _ _ _ h => h) (Or.inl ⟨by rfl, ?_⟩) ?_ ?_
               rotate_left
               · intro w'
                 go_simp
                 with_reducible rfl
               rotate_left
               · exact qsD140
               refine done_ (by kernel_rfl) ?_
               try go_wp2
               go_ret
               exact ⟨qD148, qD142⟩
           · rw [if_neg c7] at H
             exact absurd H (by simp)
         · rw [if_neg c5] at H
           exact absurd H (by simp)
       · rw [if_neg c4] at H
         exact absurd H (by simp)
     · rw [if_neg c3] at H
       have c3b0 : decide (x10_1 < (l0.length : Int)) = false := decide_eq_false c3; clear c3; obtain rfl := Option.some.inj H
       go_wp2
       go_ret
       exact ⟨qD148, qD140⟩

/-! ### rectoref31_History: function 14 -/
def rectoref31_History.l0 : Nat → List (S48) → ByteArray → List Int → Int → Option (List Int)
 | 0, _, _, _, _ => none
 | k + 1, x0, x1, x5, x6 => if x6 ≥ 0 then (if 0 ≤ x6 then (if x6 < (x0.length : Int) then (if ((rd_T48 x0 x6).f1).toList = x1.toList then (if x5.length < 17592186044416 then (rectoref31_History.l0 k x0 x1 (x5 ++ [wrap64 (x6 + 1)]) (wrap64 (x6 - 1))) else (none)) else (rectoref31_History.l0 k x0 x1 x5 (wrap64 (x6 - 1)))) else (none)) else (none)) else (some x5)
def rectoref31_History.f (k : Nat) (l0 : List (S48)) (a1 : ByteArray) : Option (List Int) := rectoref31_History.l0 k l0 a1 ([] : List Int) (wrap64 ((l0.length : Int) - 1))
theorem rectoref31_History.mono_l : ∀ k, (∀ y0 y1 y2 y3, LeO (rectoref31_History.l0 k y0 y1 y2 y3) (rectoref31_History.l0 (k + 1) y0 y1 y2 y3))
 | 0 => fun _ _ _ _ r h => by simp [rectoref31_History.l0] at h
 | k + 1 => by
  have ih0 := rectoref31_History.mono_l k
  · intro y0 y1 y2 y3
    unfold rectoref31_History.l0
    repeat' first
    | (with_reducible exact ih0 _ _ _ _)
    | (with_reducible exact LeO.refl _)
    | (with_reducible exact LeO.none _)
    | (with_reducible refine LeO.ite ?_ ?_)
    | (with_reducible refine LeO.bind ?_ (fun _ => ?_))
    | exact ih0 _ _ _ _
    | exact LeO.none _
    | refine LeO.ite ?_ ?_
    | refine LeO.bind ?_ (fun _ => ?_)
theorem rectoref31_History.mono : ∀ a0 a1 k, LeO (rectoref31_History.f k a0 a1) (rectoref31_History.f (k + 1) a0 a1) := by
 intro a0 a1 k
 have ih0 := rectoref31_History.mono_l k; unfold rectoref31_History.f
 repeat' first
  | (with_reducible exact ih0 _ _ _ _)
  | (with_reducible exact LeO.refl _)
  | (with_reducible exact LeO.none _)
  | (with_reducible refine LeO.ite ?_ ?_)
  | (with_reducible refine LeO.bind ?_ (fun _ => ?_))
  | exact ih0 _ _ _ _
  | exact LeO.none _
  | refine LeO.ite ?_ ?_
  | refine LeO.bind ?_ (fun _ => ?_)
set_option maxHeartbeats 8000000 in
set_option maxRecDepth 100000 in
theorem rectoref31_History.calls (k : Nat) (A0 : Option Addr) (c0 : Nat) (l0 : List (S48)) (a1 : ByteArray) (r : List Int) (w : World) (hr0 : Kd.C k48 w A0 l0.length l0) (hc0 : l0.length ≤ c0) (h : rectoref31_History.f k l0 a1 = some r) (HG : Aside0 (Laid w)) :
 Calls Tryd.prog 14 #[.slice A0 l0.length c0, .string a1] w fun e w' => ∃ v0_ : Value, e = .returned (v0_) ∧ Kd.R (Kd.int .i64) 3 w' w.heap.size (fun _ => True) v0_ r ∧ Below w.heap.size w w' := by
 have HR0 := Aside0.mk hr0; have HC0 := Aside0.mk hc0; clear hr0 hc0; have HB := Aside0.mk (Below.refl w.heap.size w); have H : (rectoref31_History.l0 k l0 a1 ([] : List Int) (wrap64 ((l0.length : Int) - 1))) = some r := h; clear h; have H' := Aside0.mk H; clear H
 go_enter Tryd.func14, Tryd.ntmps14
 go_wp2
 go_loopg [5, 6] k (fun kq v5 v6 w' => ∃ (x5_1 : List Int) (x6_1 : Int), v6 = .int .i64 x6_1 ∧ Aside0 (rectoref31_History.l0 kq l0 a1 x5_1 x6_1 = some r) ∧ Aside0 (kq ≤ k) ∧ Aside0 (Kd.R (Kd.int .i64) 3 w' w.heap.size (fun _ => True) v5 x5_1) ∧ Aside0 (Below w.heap.size w w'))
 case atStart => exact ⟨(([] : List Int)), (wrap64 ((l0.length : Int) - 1)), qD147, H', ⟨Nat.le_refl _⟩, ⟨qD1411⟩, ⟨qD140⟩⟩
 case round =>
  clear H'; (try clear c1); (try clear p2); obtain ⟨x5_1, x6_1, rfl, HA, HK1, HO_5, HB⟩ := hrel
  cases gk with
  | zero => exact absurd HA.out (by simp [rectoref31_History.l0])
  | succ k1 =>
   have H := HA.out; clear HA; simp only [rectoref31_History.l0] at H
   by_cases c3 : x6_1 ≥ 0
   · rw [if_pos c3] at H
     have c3b0 : decide (0 ≤ x6_1) = true := decide_eq_true c3; clear c3
     by_cases c4 : 0 ≤ x6_1
     · rw [if_pos c4] at H
       have c4b0 : decide (0 ≤ x6_1) = true := decide_eq_true c4; clear c4
       by_cases c5 : x6_1 < (l0.length : Int)
       · rw [if_pos c5] at H
         have c5b0 : decide (x6_1 < (l0.length : Int)) = true := decide_eq_true c5; clear c5
         by_cases c6 : ((rd_T48 l0 x6_1).f1).toList = a1.toList
         · rw [if_pos c6] at H
           have c6b0 : (((rd_T48 l0 x6_1).f1).toList == a1.toList) = true := beq_iff_eq.mpr c6; have c6b1 : (((rd_T48 l0 x6_1).f1).toList != a1.toList) = false := bne_eq_false_iff_eq.mpr c6; clear c6
           by_cases c7 : x5_1.length < 17592186044416
           · rw [if_pos c7] at H
             have LMc7 := Aside0.mk c7; clear c7; obtain ⟨y290, hy290⟩ : ∃ y_ : List Int, y_ = (x5_1 ++ [wrap64 (x6_1 + 1)]) := ⟨_, rfl⟩
             replace H : (rectoref31_History.l0 k1 l0 a1 y290 (wrap64 (x6_1 - 1))) = some r := by first | (rw [hy290]; with_reducible exact H) | (have H2_ := (Option.bind_some _ _).symm.trans H; rw [hy290]; with_reducible exact H2_) | (have H2_ := (Option.bind_some _ _).symm.trans H; with_reducible exact H2_) | with_reducible exact H | (rw [hy290]; exact H) | exact H
             have Ny290 := Aside0.mk hy290; clear hy290; have H' := Aside0.mk H; clear H; have p289 : 0 ≤ (x6_1 : Int) := of_decide_eq_true qD143; have q289 : x6_1 < (l0.length : Int) := of_decide_eq_true qD143; obtain ⟨ad289, A289_3, c289_3, e289, hx289_0, hx289_1, hx289_2, hx289_3, hl289_3, hi289_3⟩ := at_T48 HR0.out x6_1 p289 q289; cases e289; replace hx289_0 := (HB.out.cell (World.block_lt_of_cell? w _ hx289_0)).trans hx289_0; replace hx289_1 := (HB.out.cell (World.block_lt_of_cell? w _ hx289_1)).trans hx289_1; replace hx289_2 := (HB.out.cell (World.block_lt_of_cell? w _ hx289_2)).trans hx289_2; replace hx289_3 := (HB.out.cell (World.block_lt_of_cell? w _ hx289_3)).trans hx289_3; have HR289_3 := Aside0.mk hi289_3; have HC289_3 := Aside0.mk hl289_3; clear hi289_3 hl289_3; replace p289 := eq_true p289; replace q289 := eq_true q289
             go_wp2_with (first | ((with_reducible refine gate_builtin (b := .append) (xs := #[.tmp 21, .tmp 24]) rfl ?_); at_builtin; refine Kd.R_append (Kd.int .i64) (w0 := w) w.heap.size rfl (.tmp 21) (.tmp 24) 29 3 (.int .i64 0) 8 rfl Tryd.underlying29 info3 rfl (by decide) (by omega) u5 x5_1 (wrap64 (x6_1 + 1)) [.int .i64 (wrap64 (x6_1 + 1))] (fun _ => True) (fun _ => False) rfl rfl ?aP (fun _ hk => hk.elim) ?aF ?aO ?aB ?aS ?aL ?_; (case aP => exact rfl); (case aB => exact qD140); (case aF => exact (fun _ _ => trivial)); (case aO => exact (mRD14 HO_5.out)); (case aS => exact (below_size qD140)); (case aL => have := LMc7.out; omega); intro v291 w8 ho hb hg hat; rw [← Ny290.out] at ho; have n0_ := Aside0.mk (hb); have n1_ := Aside0.mk (ho); clear HB; clear HO_5; have HB := n0_; have HO292 := n1_; clear n0_ n1_; clear ho hb hg hat))
             go_roundg k1
             case measure => have := HK1.out; omega
             case rel => exact ⟨(y290), (wrap64 (x6_1 - 1)), qD147, H', ⟨by have := HK1.out; omega⟩, ⟨by (with_reducible repeat (first | apply Kd.R_alloc | apply Kd.R_drewN | apply Kd.R_drew)); exact HO292.out⟩, ⟨qD140⟩⟩
           · rw [if_neg c7] at H
             exact absurd H (by simp)
         · rw [if_neg c6] at H
           have c6b0 : (((rd_T48 l0 x6_1).f1).toList == a1.toList) = false := beq_eq_false_iff_ne.mpr c6; have c6b1 : (((rd_T48 l0 x6_1).f1).toList != a1.toList) = true := bne_iff_ne.mpr c6; have H' := Aside0.mk H; clear H; have p289 : 0 ≤ (x6_1 : Int) := of_decide_eq_true qD143; have q289 : x6_1 < (l0.length : Int) := of_decide_eq_true qD143; obtain ⟨ad289, A289_3, c289_3, e289, hx289_0, hx289_1, hx289_2, hx289_3, hl289_3, hi289_3⟩ := at_T48 HR0.out x6_1 p289 q289; cases e289; replace hx289_0 := (HB.out.cell (World.block_lt_of_cell? w _ hx289_0)).trans hx289_0; replace hx289_1 := (HB.out.cell (World.block_lt_of_cell? w _ hx289_1)).trans hx289_1; replace hx289_2 := (HB.out.cell (World.block_lt_of_cell? w _ hx289_2)).trans hx289_2; replace hx289_3 := (HB.out.cell (World.block_lt_of_cell? w _ hx289_3)).trans hx289_3; have HR289_3 := Aside0.mk hi289_3; have HC289_3 := Aside0.mk hl289_3; clear hi289_3 hl289_3; replace p289 := eq_true p289; replace q289 := eq_true q289
           go_wp2
           go_roundg k1
           case measure => have := HK1.out; omega
           case rel => exact ⟨(x5_1), (wrap64 (x6_1 - 1)), qD147, H', ⟨by have := HK1.out; omega⟩, ⟨by (with_reducible repeat (first | apply Kd.R_alloc | apply Kd.R_drewN | apply Kd.R_drew)); exact HO_5.out⟩, ⟨qD140⟩⟩
       · rw [if_neg c5] at H
         exact absurd H (by simp)
     · rw [if_neg c4] at H
       exact absurd H (by simp)
   · rw [if_neg c3] at H
     have c3b0 : decide (0 ≤ x6_1) = false := decide_eq_false c3; clear c3; obtain rfl := Option.some.inj H
     go_wp2
     go_ret
     exact qD1414

/-! ### rectoref31_Leaves: function 16 -/
mutual
def rectoref31_Leaves.l0 : Nat → List (S48) → ByteArray → List Int → List (S48) → Int → Int → Option (List Int)
 | 0, _, _, _, _, _, _ => none
 | k + 1, x0, x1, x5, x11, x12, x13 => if x13 < x12 then (if 0 ≤ x13 then (if x13 < (x11.length : Int) then (rectoref31_Leaves.l1 k x0 x1 x5 (((rd_T48 x11 x13).f1).toList == x1.toList) x11 x12 x13 x0 (x0.length : Int) 0 ((rd_T48 x11 x13).f0) ((rd_T48 x11 x13).f1) ((rd_T48 x11 x13).f2) ((rd_T48 x11 x13).f3)) else (none)) else (none)) else (some x5)
def rectoref31_Leaves.l1 : Nat → List (S48) → ByteArray → List Int → Bool → List (S48) → Int → Int → List (S48) → Int → Int → Int → ByteArray → Int → List Int → Option (List Int)
 | 0, _, _, _, _, _, _, _, _, _, _, _, _, _, _ => none
 | k + 1, x0, x1, x5, x8, x11, x12, x13, x21, x22, x23, x295000, x295001, x295002, x295003 => if x23 < x22 then (if 0 ≤ x23 then (if x23 < (x21.length : Int) then (if x8 = true then ((rectoref31_has.f k ((rd_T48 x21 x23).f3) x295000).bind fun t297 => (rectoref31_Leaves.l1 k x0 x1 x5 (!t297) x11 x12 x13 x21 x22 (wrap64 (x23 + 1)) x295000 x295001 x295002 x295003)) else (rectoref31_Leaves.l1 k x0 x1 x5 false x11 x12 x13 x21 x22 (wrap64 (x23 + 1)) x295000 x295001 x295002 x295003)) else (none)) else (none)) else (if x8 = true then (if x5.length < 17592186044416 then (rectoref31_Leaves.l0 k x0 x1 (x5 ++ [x295000]) x11 x12 (wrap64 (x13 + 1))) else (none)) else (rectoref31_Leaves.l0 k x0 x1 x5 x11 x12 (wrap64 (x13 + 1))))
end
def rectoref31_Leaves.f (k : Nat) (l0 : List (S48)) (a1 : ByteArray) : Option (List Int) := rectoref31_Leaves.l0 k l0 a1 ([] : List Int) l0 (l0.length : Int) 0
theorem rectoref31_Leaves.mono_l : ∀ k, (∀ y0 y1 y2 y3 y4 y5, LeO (rectoref31_Leaves.l0 k y0 y1 y2 y3 y4 y5) (rectoref31_Leaves.l0 (k + 1) y0 y1 y2 y3 y4 y5)) ∧ (∀ y0 y1 y2 y3 y4 y5 y6 y7 y8 y9 y10 y11 y12 y13, LeO (rectoref31_Leaves.l1 k y0 y1 y2 y3 y4 y5 y6 y7 y8 y9 y10 y11 y12 y13) (rectoref31_Leaves.l1 (k + 1) y0 y1 y2 y3 y4 y5 y6 y7 y8 y9 y10 y11 y12 y13))
 | 0 => ⟨fun _ _ _ _ _ _ r h => by simp [rectoref31_Leaves.l0] at h, fun _ _ _ _ _ _ _ _ _ _ _ _ _ _ r h => by simp [rectoref31_Leaves.l1] at h⟩
 | k + 1 => by
  obtain ⟨ih0, ih1⟩ := rectoref31_Leaves.mono_l k
  refine ⟨?_, ?_⟩
  · intro y0 y1 y2 y3 y4 y5
    unfold rectoref31_Leaves.l0
    repeat' first
    | (with_reducible exact ih0 _ _ _ _ _ _)
    | (with_reducible exact ih1 _ _ _ _ _ _ _ _ _ _ _ _ _ _)
    | (with_reducible exact rectoref31_has.mono _ _ _)
    | (with_reducible exact LeO.refl _)
    | (with_reducible exact LeO.none _)
    | (with_reducible refine LeO.ite ?_ ?_)
    | (with_reducible refine LeO.bind ?_ (fun _ => ?_))
    | exact ih0 _ _ _ _ _ _
    | exact ih1 _ _ _ _ _ _ _ _ _ _ _ _ _ _
    | exact rectoref31_has.mono _ _ _
    | exact LeO.none _
    | refine LeO.ite ?_ ?_
    | refine LeO.bind ?_ (fun _ => ?_)
  · intro y0 y1 y2 y3 y4 y5 y6 y7 y8 y9 y10 y11 y12 y13
    unfold rectoref31_Leaves.l1
    repeat' first
    | (with_reducible exact ih0 _ _ _ _ _ _)
    | (with_reducible exact ih1 _ _ _ _ _ _ _ _ _ _ _ _ _ _)
    | (with_reducible exact rectoref31_has.mono _ _ _)
    | (with_reducible exact LeO.refl _)
    | (with_reducible exact LeO.none _)
    | (with_reducible refine LeO.ite ?_ ?_)
    | (with_reducible refine LeO.bind ?_ (fun _ => ?_))
    | exact ih0 _ _ _ _ _ _
    | exact ih1 _ _ _ _ _ _ _ _ _ _ _ _ _ _
    | exact rectoref31_has.mono _ _ _
    | exact LeO.none _
    | refine LeO.ite ?_ ?_
    | refine LeO.bind ?_ (fun _ => ?_)
theorem rectoref31_Leaves.mono : ∀ a0 a1 k, LeO (rectoref31_Leaves.f k a0 a1) (rectoref31_Leaves.f (k + 1) a0 a1) := by
 intro a0 a1 k
 obtain ⟨ih0, ih1⟩ := rectoref31_Leaves.mono_l k; unfold rectoref31_Leaves.f
 repeat' first
  | (with_reducible exact ih0 _ _ _ _ _ _)
  | (with_reducible exact ih1 _ _ _ _ _ _ _ _ _ _ _ _ _ _)
  | (with_reducible exact rectoref31_has.mono _ _ _)
  | (with_reducible exact LeO.refl _)
  | (with_reducible exact LeO.none _)
  | (with_reducible refine LeO.ite ?_ ?_)
  | (with_reducible refine LeO.bind ?_ (fun _ => ?_))
  | exact ih0 _ _ _ _ _ _
  | exact ih1 _ _ _ _ _ _ _ _ _ _ _ _ _ _
  | exact rectoref31_has.mono _ _ _
  | exact LeO.none _
  | refine LeO.ite ?_ ?_
  | refine LeO.bind ?_ (fun _ => ?_)
set_option maxHeartbeats 8000000 in
set_option maxRecDepth 100000 in
theorem rectoref31_Leaves.calls (k : Nat) (A0 : Option Addr) (c0 : Nat) (l0 : List (S48)) (a1 : ByteArray) (r : List Int) (w : World) (hr0 : Kd.C k48 w A0 l0.length l0) (hc0 : l0.length ≤ c0) (h : rectoref31_Leaves.f k l0 a1 = some r) (HG : Aside0 (Laid w)) :
 Calls Tryd.prog 16 #[.slice A0 l0.length c0, .string a1] w fun e w' => ∃ v0_ : Value, e = .returned (v0_) ∧ Kd.R (Kd.int .i64) 3 w' w.heap.size (fun _ => True) v0_ r ∧ Below w.heap.size w w' := by
 have hu48 := Tryd.underlying48; have HR0 := Aside0.mk hr0; have HC0 := Aside0.mk hc0; clear hr0 hc0; have HB := Aside0.mk (Below.refl w.heap.size w); have H : (rectoref31_Leaves.l0 k l0 a1 ([] : List Int) l0 (l0.length : Int) 0) = some r := h; clear h; have H' := Aside0.mk H; clear H
 go_enter Tryd.func16, Tryd.ntmps16
 go_wp2
 go_loopg [5, 13] k (fun kq v5 v13 w' => ∃ (x5_1 : List Int) (x13_1 : Int), v13 = .int .i64 x13_1 ∧ Aside0 (rectoref31_Leaves.l0 kq l0 a1 x5_1 l0 (l0.length : Int) x13_1 = some r) ∧ Aside0 (kq ≤ k) ∧ Aside0 (Kd.R (Kd.int .i64) 3 w' w.heap.size (fun _ => True) v5 x5_1) ∧ Aside0 (Below w.heap.size w w'))
 case atStart => exact ⟨(([] : List Int)), (0), qD147, H', ⟨Nat.le_refl _⟩, ⟨qD1411⟩, ⟨qD140⟩⟩
 case round =>
  clear H'; (try clear c1); (try clear p2); obtain ⟨x5_1, x13_1, rfl, HA, HK1, HO_5, HB⟩ := hrel
  cases gk with
  | zero => exact absurd HA.out (by simp [rectoref31_Leaves.l0])
  | succ k1 =>
   have H := HA.out; clear HA; simp only [rectoref31_Leaves.l0] at H
   by_cases c3 : x13_1 < (l0.length : Int)
   · rw [if_pos c3] at H
     have c3b0 : decide (x13_1 < (l0.length : Int)) = true := decide_eq_true c3; clear c3
     by_cases c4 : 0 ≤ x13_1
     · rw [if_pos c4] at H
       have c4b0 : decide (0 ≤ x13_1) = true := decide_eq_true c4; clear c4
       by_cases c5 : x13_1 < (l0.length : Int)
       · rw [if_pos c5] at H
         have c5b0 : decide (x13_1 < (l0.length : Int)) = true := decide_eq_true c5; clear c5; have H' := Aside0.mk H; clear H; have p293 : 0 ≤ (x13_1 : Int) := of_decide_eq_true qD143; have q293 : x13_1 < (l0.length : Int) := of_decide_eq_true qD143; obtain ⟨ad293, A293_3, c293_3, e293, hx293_0, hx293_1, hx293_2, hx293_3, hl293_3, hi293_3⟩ := at_T48 HR0.out x13_1 p293 q293; cases e293; replace hx293_0 := (HB.out.cell (World.block_lt_of_cell? w _ hx293_0)).trans hx293_0; replace hx293_1 := (HB.out.cell (World.block_lt_of_cell? w _ hx293_1)).trans hx293_1; replace hx293_2 := (HB.out.cell (World.block_lt_of_cell? w _ hx293_2)).trans hx293_2; replace hx293_3 := (HB.out.cell (World.block_lt_of_cell? w _ hx293_3)).trans hx293_3; have HR293_3 := Aside0.mk hi293_3; have HC293_3 := Aside0.mk hl293_3; clear hi293_3 hl293_3; replace p293 := eq_true p293; replace q293 := eq_true q293
         go_wp2_with (first | ((with_reducible refine gate_dst (N := 7) rfl ?_); refine box_event ?hg (N := 7) ?hd (cs := #[.int .i64 0, .string (⟨#[]⟩ : ByteArray), .int .i64 0, .slice none 0 0]) (t := 48) ?hr ?_; (case hd => rfl); (case hg => rfl); (case hr => exact qD1413); intro gb294 hg w6 hbox hb; have n0_ := Aside0.mk (Kd.R_below (mRD14 HO_5.out) hb); have n1_ := Aside0.mk (below_step qD140 hb); have n2_ := Aside0.mk (hbox); have n3_ := Aside0.mk ((by rw [hg]; exact (below_size qD140) : w.heap.size ≤ gb294)); have n4_ := Aside0.mk ((by rw [hg]; exact (below_size qD140) : w.heap.size ≤ gb294)); clear HO_5; clear HB; have HO_5 := n0_; have HB := n1_; have BK294 := n2_; have GW294 := n3_; have GE294 := n4_; clear n0_ n1_ n2_ n3_ n4_; clear hb hbox hg; have hcz7_0 : w6.cell? ⟨gb294, 0, none⟩ = some (.int .i64 0) := (blk_cell BK294.out 0).trans rfl; have hcz7_1 : w6.cell? ⟨gb294, 1, none⟩ = some (.string (⟨#[]⟩ : ByteArray)) := (blk_cell BK294.out 1).trans rfl; have hcz7_2 : w6.cell? ⟨gb294, 2, none⟩ = some (.int .i64 0) := (blk_cell BK294.out 2).trans rfl; have hcz7_3 : w6.cell? ⟨gb294, 3, none⟩ = some (.slice none 0 0) := (blk_cell BK294.out 3).trans rfl; have hfz7_0 := blk_frozen BK294.out 0; have hfz7_1 := blk_frozen BK294.out 1; have hfz7_2 := blk_frozen BK294.out 2; have hfz7_3 := blk_frozen BK294.out 3))
         go_loopg [8, 23] k1 (fun kq v8 v23 w' => ∃ (x8_2 : Bool) (x23_2 : Int), v8 = .bool x8_2 ∧ v23 = .int .i64 x23_2 ∧ Aside0 (rectoref31_Leaves.l1 kq l0 a1 x5_1 x8_2 l0 (l0.length : Int) x13_1 l0 (l0.length : Int) x23_2 ((rd_T48 l0 x13_1).f0) ((rd_T48 l0 x13_1).f1) ((rd_T48 l0 x13_1).f2) ((rd_T48 l0 x13_1).f3) = some r) ∧ Aside0 (kq ≤ k1) ∧ Aside0 (Kd.R (Kd.int .i64) 3 w' w.heap.size (fun _ => True) u5 x5_1) ∧ Aside0 (w'.heap[gb294]? = some (.cells #[.int .i64 ((rd_T48 l0 x13_1).f0), .string ((rd_T48 l0 x13_1).f1), .int .i64 ((rd_T48 l0 x13_1).f2), (.slice A293_3 ((rd_T48 l0 x13_1).f3).length c293_3)] 48 (0, 0))) ∧ Aside0 (Below w.heap.size w w'))
         case atStart => exact ⟨((((rd_T48 l0 x13_1).f1).toList == a1.toList)), (0), qD147, qD147, H', ⟨Nat.le_refl _⟩, ⟨by (with_reducible repeat (first | apply Kd.R_alloc | apply Kd.R_drewN | apply Kd.R_drew)); exact Kd.R_mono (Kd.R_far (p := ⟨gb294, 3, none⟩) (Kd.R_far (p := ⟨gb294, 2, none⟩) (Kd.R_far (p := ⟨gb294, 1, none⟩) (Kd.R_far (p := ⟨gb294, 0, none⟩) (Kd.R_types HO_5.out BK294.out (by decide)) (fun _ hk => hk.2) (.int .i64 ((rd_T48 l0 x13_1).f0))) (fun _ hk => hk.2) (.string ((rd_T48 l0 x13_1).f1))) (fun _ hk => hk.2) (.int .i64 ((rd_T48 l0 x13_1).f2))) (fun _ hk => hk.2) (.slice A293_3 ((rd_T48 l0 x13_1).f3).length c293_3)) (fun _ hk => trivial)⟩, ⟨by (with_reducible repeat (first | refine blk_drewN ?_ _ | refine blk_drew ?_ | refine blk_alloc ?_ _)); refine blk_put (cs := #[.int .i64 ((rd_T48 l0 x13_1).f0), .string ((rd_T48 l0 x13_1).f1), .int .i64 ((rd_T48 l0 x13_1).f2), .slice none 0 0]) ?_ 3 _ qD146; (with_reducible repeat (first | refine blk_drewN ?_ _ | refine blk_drew ?_ | refine blk_alloc ?_ _)); refine blk_put (cs := #[.int .i64 ((rd_T48 l0 x13_1).f0), .string ((rd_T48 l0 x13_1).f1), .int .i64 0, .slice none 0 0]) ?_ 2 _ qD146; (with_reducible repeat (first | refine blk_drewN ?_ _ | refine blk_drew ?_ | refine blk_alloc ?_ _)); refine blk_put (cs := #[.int .i64 ((rd_T48 l0 x13_1).f0), .string (⟨#[]⟩ : ByteArray), .int .i64 0, .slice none 0 0]) ?_ 1 _ qD146; (with_reducible repeat (first | refine blk_drewN ?_ _ | refine blk_drew ?_ | refine blk_alloc ?_ _)); refine blk_put (cs := #[.int .i64 0, .string (⟨#[]⟩ : ByteArray), .int .i64 0, .slice none 0 0]) ?_ 0 _ qD146; (with_reducible repeat (first | refine blk_drewN ?_ _ | refine blk_drew ?_ | refine blk_alloc ?_ _)); exact BK294.out⟩, ⟨qD141⟩⟩
         case round =>
          clear H'; (try clear c1); (try clear c2); (try clear p2); (try clear q2); (try clear hx2); (try clear c3); (try clear c3b0); (try clear c4); (try clear c4b0); (try clear c5); (try clear c5b0); (try clear hcz7_0); (try clear hcz7_1); (try clear hcz7_2); (try clear hcz7_3); (try clear hfz7_0); (try clear hfz7_1); (try clear hfz7_2); (try clear hfz7_3); (try clear hx293_0); (try clear hx293_1); (try clear hx293_2); (try clear hx293_3); (try clear p2); (try clear p293); (try clear q293); obtain ⟨x8_2, x23_2, rfl, rfl, HA, HK2, HO_5, BK294, HB⟩ := hrel
          cases gk with
          | zero => exact absurd HA.out (by simp [rectoref31_Leaves.l1])
          | succ k2 =>
           have H := HA.out; clear HA; simp only [rectoref31_Leaves.l1] at H
           by_cases c8 : x23_2 < (l0.length : Int)
           · rw [if_pos c8] at H
             have c8b0 : decide (x23_2 < (l0.length : Int)) = true := decide_eq_true c8; clear c8
             by_cases c9 : 0 ≤ x23_2
             · rw [if_pos c9] at H
               have c9b0 : decide (0 ≤ x23_2) = true := decide_eq_true c9; clear c9
               by_cases c10 : x23_2 < (l0.length : Int)
               · rw [if_pos c10] at H
                 have c10b0 : decide (x23_2 < (l0.length : Int)) = true := decide_eq_true c10; clear c10
                 by_cases c11 : x8_2 = true
                 · subst c11
                   have H1 : ((rectoref31_has.f k2 ((rd_T48 l0 x23_2).f3) ((rd_T48 l0 x13_1).f0)).bind fun t297 => (rectoref31_Leaves.l1 k2 l0 a1 x5_1 (!t297) l0 (l0.length : Int) x13_1 l0 (l0.length : Int) (wrap64 (x23_2 + 1)) ((rd_T48 l0 x13_1).f0) ((rd_T48 l0 x13_1).f1) ((rd_T48 l0 x13_1).f2) ((rd_T48 l0 x13_1).f3))) = some r := by rw [if_pos rfl] at H; exact H
                   clear H; have H := H1; clear H1; replace H := Option.bind_eq_some_iff.mp H; obtain ⟨t297, A120, H⟩ := H; replace H : (rectoref31_Leaves.l1 k2 l0 a1 x5_1 (!t297) l0 (l0.length : Int) x13_1 l0 (l0.length : Int) (wrap64 (x23_2 + 1)) ((rd_T48 l0 x13_1).f0) ((rd_T48 l0 x13_1).f1) ((rd_T48 l0 x13_1).f2) ((rd_T48 l0 x13_1).f3)) = some r := H; have A12 := Aside0.mk A120; clear A120; have H' := Aside0.mk H; clear H; have p295 : 0 ≤ (x23_2 : Int) := of_decide_eq_true qD143; have q295 : x23_2 < (l0.length : Int) := of_decide_eq_true qD143; obtain ⟨ad295, A295_3, c295_3, e295, hx295_0, hx295_1, hx295_2, hx295_3, hl295_3, hi295_3⟩ := at_T48 HR0.out x23_2 p295 q295; obtain rfl : ad293 = ad295 := (by injection e295); replace hx295_0 := (HB.out.cell (World.block_lt_of_cell? w _ hx295_0)).trans hx295_0; replace hx295_1 := (HB.out.cell (World.block_lt_of_cell? w _ hx295_1)).trans hx295_1; replace hx295_2 := (HB.out.cell (World.block_lt_of_cell? w _ hx295_2)).trans hx295_2; replace hx295_3 := (HB.out.cell (World.block_lt_of_cell? w _ hx295_3)).trans hx295_3; have HR295_3 := Aside0.mk hi295_3; have HC295_3 := Aside0.mk hl295_3; clear hi295_3 hl295_3; replace p295 := eq_true p295; replace q295 := eq_true q295
                   go_wp2_with (first | ((with_reducible refine gate_dst (N := 10) rfl ?_); refine box_event ?hg (N := 10) ?hd (cs := #[.int .i64 0, .string (⟨#[]⟩ : ByteArray), .int .i64 0, .slice none 0 0]) (t := 48) ?hr ?_; (case hd => rfl); (case hg => rfl); (case hr => exact qD1413); intro gb296 hg w13 hbox hb; have n0_ := Aside0.mk (Kd.R_below (mRD14 HO_5.out) hb); have n1_ := Aside0.mk (blk_below (g := gb294) (o := .cells #[.int .i64 ((rd_T48 l0 x13_1).f0), .string ((rd_T48 l0 x13_1).f1), .int .i64 ((rd_T48 l0 x13_1).f2), .slice A293_3 ((rd_T48 l0 x13_1).f3).length c293_3] 48 (0, 0)) qD144 hb); have n2_ := Aside0.mk (below_step qD141 hb); have n3_ := Aside0.mk (hbox); have n4_ := Aside0.mk ((by rw [hg]; exact (below_size qD141) : w.heap.size ≤ gb296)); have n5_ := Aside0.mk ((by rw [hg]; exact (below_size qD141) : w.heap.size ≤ gb296)); have n6_ := Aside0.mk ((by rw [hg]; exact Nat.ne_of_lt (blk_lt (g := gb294) (o := .cells #[.int .i64 ((rd_T48 l0 x13_1).f0), .string ((rd_T48 l0 x13_1).f1), .int .i64 ((rd_T48 l0 x13_1).f2), .slice A293_3 ((rd_T48 l0 x13_1).f3).length c293_3] 48 (0, 0)) qD144) : gb294 ≠ gb296)); have n7_ := Aside0.mk ((by rw [hg]; exact Nat.ne_of_gt (blk_lt (g := gb294) (o := .cells #[.int .i64 ((rd_T48 l0 x13_1).f0), .string ((rd_T48 l0 x13_1).f1), .int .i64 ((rd_T48 l0 x13_1).f2), .slice A293_3 ((rd_T48 l0 x13_1).f3).length c293_3] 48 (0, 0)) qD144) : gb296 ≠ gb294)); clear HO_5; clear BK294; clear HB; have HO_5 := n0_; have BK294 := n1_; have HB := n2_; have BK296 := n3_; have GW296 := n4_; have GE296 := n5_; have NB294_296 := n6_; have NB296_294 := n7_; clear n0_ n1_ n2_ n3_ n4_ n5_ n6_ n7_; clear hb hbox hg; have hnb14 := NB296_294.out; have hnc14 := NB294_296.out; have hcz15_0 : w13.cell? ⟨gb296, 0, none⟩ = some (.int .i64 0) := (blk_cell BK296.out 0).trans rfl; have hcz15_1 : w13.cell? ⟨gb296, 1, none⟩ = some (.string (⟨#[]⟩ : ByteArray)) := (blk_cell BK296.out 1).trans rfl; have hcz15_2 : w13.cell? ⟨gb296, 2, none⟩ = some (.int .i64 0) := (blk_cell BK296.out 2).trans rfl; have hcz15_3 : w13.cell? ⟨gb296, 3, none⟩ = some (.slice none 0 0) := (blk_cell BK296.out 3).trans rfl; have hfz15_0 := blk_frozen BK296.out 0; have hfz15_1 := blk_frozen BK296.out 1; have hfz15_2 := blk_frozen BK296.out 2; have hfz15_3 := blk_frozen BK296.out 3; have hcz16_0 : w13.cell? ⟨gb294, 0, none⟩ = some (.int .i64 ((rd_T48 l0 x13_1).f0)) := (blk_cell BK294.out 0).trans rfl; have hcz16_1 : w13.cell? ⟨gb294, 1, none⟩ = some (.string ((rd_T48 l0 x13_1).f1)) := (blk_cell BK294.out 1).trans rfl; have hcz16_2 : w13.cell? ⟨gb294, 2, none⟩ = some (.int .i64 ((rd_T48 l0 x13_1).f2)) := (blk_cell BK294.out 2).trans rfl; have hcz16_3 : w13.cell? ⟨gb294, 3, none⟩ = some (.slice A293_3 ((rd_T48 l0 x13_1).f3).length c293_3) := (blk_cell BK294.out 3).trans rfl; have hfz16_0 := blk_frozen BK294.out 0; have hfz16_1 := blk_frozen BK294.out 1; have hfz16_2 := blk_frozen BK294.out 2; have hfz16_3 := blk_frozen BK294.out 3) | (go_at_call 32; (with_reducible refine (rectoref31_has.calls k2 _ _ ((rd_T48 l0 x23_2).f3) ((rd_T48 l0 x13_1).f0) t297 _ ?side1 ?side2 A12.out ?side3).mono ?_); (case side1 => exact Kd.C_below HR295_3.out qD145); (case side2 => exact HC295_3.out); (case side3 => exact Aside0.mk (Laid.below HG.out qD145)); rintro e w' ⟨rfl, ⟨nd, rfl⟩⟩))
                   go_roundg k2
                   case measure => have := HK1.out; have := HK2.out; omega
                   case rel => exact ⟨(!t297), (wrap64 (x23_2 + 1)), qD147, qD147, H', ⟨by have := HK1.out; have := HK2.out; omega⟩, ⟨by (with_reducible repeat (first | apply Kd.R_alloc | apply Kd.R_drewN | apply Kd.R_drew)); exact Kd.R_mono (Kd.R_far (p := ⟨gb296, 3, none⟩) (Kd.R_far (p := ⟨gb296, 2, none⟩) (Kd.R_far (p := ⟨gb296, 1, none⟩) (Kd.R_far (p := ⟨gb296, 0, none⟩) (Kd.R_types HO_5.out BK296.out (by decide)) (fun _ hk => hk.2) (.int .i64 ((rd_T48 l0 x23_2).f0))) (fun _ hk => hk.2) (.string ((rd_T48 l0 x23_2).f1))) (fun _ hk => hk.2) (.int .i64 ((rd_T48 l0 x23_2).f2))) (fun _ hk => hk.2) (.slice A295_3 ((rd_T48 l0 x23_2).f3).length c295_3)) (fun _ hk => trivial)⟩, ⟨by (with_reducible repeat (first | refine blk_drewN ?_ _ | refine blk_drew ?_ | refine blk_alloc ?_ _)); refine blk_far ?_ NB294_296.out _; (with_reducible repeat (first | refine blk_drewN ?_ _ | refine blk_drew ?_ | refine blk_alloc ?_ _)); refine blk_far ?_ NB294_296.out _; (with_reducible repeat (first | refine blk_drewN ?_ _ | refine blk_drew ?_ | refine blk_alloc ?_ _)); refine blk_far ?_ NB294_296.out _; (with_reducible repeat (first | refine blk_drewN ?_ _ | refine blk_drew ?_ | refine blk_alloc ?_ _)); refine blk_far ?_ NB294_296.out _; (with_reducible repeat (first | refine blk_drewN ?_ _ | refine blk_drew ?_ | refine blk_alloc ?_ _)); exact BK294.out⟩, ⟨qD145⟩⟩
                 · replace c11 := Bool.eq_false_iff.mpr c11
                   subst c11
                   have H1 : (rectoref31_Leaves.l1 k2 l0 a1 x5_1 false l0 (l0.length : Int) x13_1 l0 (l0.length : Int) (wrap64 (x23_2 + 1)) ((rd_T48 l0 x13_1).f0) ((rd_T48 l0 x13_1).f1) ((rd_T48 l0 x13_1).f2) ((rd_T48 l0 x13_1).f3)) = some r := by rw [if_neg (show ¬ (false = true) by decide)] at H; exact H
                   clear H; have H := H1; clear H1; have H' := Aside0.mk H; clear H; have p295 : 0 ≤ (x23_2 : Int) := of_decide_eq_true qD143; have q295 : x23_2 < (l0.length : Int) := of_decide_eq_true qD143; obtain ⟨ad295, A295_3, c295_3, e295, hx295_0, hx295_1, hx295_2, hx295_3, hl295_3, hi295_3⟩ := at_T48 HR0.out x23_2 p295 q295; obtain rfl : ad293 = ad295 := (by injection e295); replace hx295_0 := (HB.out.cell (World.block_lt_of_cell? w _ hx295_0)).trans hx295_0; replace hx295_1 := (HB.out.cell (World.block_lt_of_cell? w _ hx295_1)).trans hx295_1; replace hx295_2 := (HB.out.cell (World.block_lt_of_cell? w _ hx295_2)).trans hx295_2; replace hx295_3 := (HB.out.cell (World.block_lt_of_cell? w _ hx295_3)).trans hx295_3; have HR295_3 := Aside0.mk hi295_3; have HC295_3 := Aside0.mk hl295_3; clear hi295_3 hl295_3; replace p295 := eq_true p295; replace q295 := eq_true q295
                   go_wp2_with (first | ((with_reducible refine gate_dst (N := 10) rfl ?_); refine box_event ?hg (N := 10) ?hd (cs := #[.int .i64 0, .string (⟨#[]⟩ : ByteArray), .int .i64 0, .slice none 0 0]) (t := 48) ?hr ?_; (case hd => rfl); (case hg => rfl); (case hr => exact qD1413); intro gb296 hg w17 hbox hb; have n0_ := Aside0.mk (Kd.R_below (mRD14 HO_5.out) hb); have n1_ := Aside0.mk (blk_below (g := gb294) (o := .cells #[.int .i64 ((rd_T48 l0 x13_1).f0), .string ((rd_T48 l0 x13_1).f1), .int .i64 ((rd_T48 l0 x13_1).f2), .slice A293_3 ((rd_T48 l0 x13_1).f3).length c293_3] 48 (0, 0)) qD144 hb); have n2_ := Aside0.mk (below_step qD141 hb); have n3_ := Aside0.mk (hbox); have n4_ := Aside0.mk ((by rw [hg]; exact (below_size qD141) : w.heap.size ≤ gb296)); have n5_ := Aside0.mk ((by rw [hg]; exact (below_size qD141) : w.heap.size ≤ gb296)); have n6_ := Aside0.mk ((by rw [hg]; exact Nat.ne_of_lt (blk_lt (g := gb294) (o := .cells #[.int .i64 ((rd_T48 l0 x13_1).f0), .string ((rd_T48 l0 x13_1).f1), .int .i64 ((rd_T48 l0 x13_1).f2), .slice A293_3 ((rd_T48 l0 x13_1).f3).length c293_3] 48 (0, 0)) qD144) : gb294 ≠ gb296)); have n7_ := Aside0.mk ((by rw [hg]; exact Nat.ne_of_gt (blk_lt (g := gb294) (o := .cells #[.int .i64 ((rd_T48 l0 x13_1).f0), .string ((rd_T48 l0 x13_1).f1), .int .i64 ((rd_T48 l0 x13_1).f2), .slice A293_3 ((rd_T48 l0 x13_1).f3).length c293_3] 48 (0, 0)) qD144) : gb296 ≠ gb294)); clear HO_5; clear BK294; clear HB; have HO_5 := n0_; have BK294 := n1_; have HB := n2_; have BK296 := n3_; have GW296 := n4_; have GE296 := n5_; have NB294_296 := n6_; have NB296_294 := n7_; clear n0_ n1_ n2_ n3_ n4_ n5_ n6_ n7_; clear hb hbox hg; have hnb18 := NB296_294.out; have hnc18 := NB294_296.out; have hcz19_0 : w17.cell? ⟨gb296, 0, none⟩ = some (.int .i64 0) := (blk_cell BK296.out 0).trans rfl; have hcz19_1 : w17.cell? ⟨gb296, 1, none⟩ = some (.string (⟨#[]⟩ : ByteArray)) := (blk_cell BK296.out 1).trans rfl; have hcz19_2 : w17.cell? ⟨gb296, 2, none⟩ = some (.int .i64 0) := (blk_cell BK296.out 2).trans rfl; have hcz19_3 : w17.cell? ⟨gb296, 3, none⟩ = some (.slice none 0 0) := (blk_cell BK296.out 3).trans rfl; have hfz19_0 := blk_frozen BK296.out 0; have hfz19_1 := blk_frozen BK296.out 1; have hfz19_2 := blk_frozen BK296.out 2; have hfz19_3 := blk_frozen BK296.out 3))
                   go_roundg k2
                   case measure => have := HK1.out; have := HK2.out; omega
                   case rel => exact ⟨(false), (wrap64 (x23_2 + 1)), qD147, qD147, H', ⟨by have := HK1.out; have := HK2.out; omega⟩, ⟨by (with_reducible repeat (first | apply Kd.R_alloc | apply Kd.R_drewN | apply Kd.R_drew)); exact Kd.R_mono (Kd.R_far (p := ⟨gb296, 3, none⟩) (Kd.R_far (p := ⟨gb296, 2, none⟩) (Kd.R_far (p := ⟨gb296, 1, none⟩) (Kd.R_far (p := ⟨gb296, 0, none⟩) (Kd.R_types HO_5.out BK296.out (by decide)) (fun _ hk => hk.2) (.int .i64 ((rd_T48 l0 x23_2).f0))) (fun _ hk => hk.2) (.string ((rd_T48 l0 x23_2).f1))) (fun _ hk => hk.2) (.int .i64 ((rd_T48 l0 x23_2).f2))) (fun _ hk => hk.2) (.slice A295_3 ((rd_T48 l0 x23_2).f3).length c295_3)) (fun _ hk => trivial)⟩, ⟨by (with_reducible repeat (first | refine blk_drewN ?_ _ | refine blk_drew ?_ | refine blk_alloc ?_ _)); refine blk_far ?_ NB294_296.out _; (with_reducible repeat (first | refine blk_drewN ?_ _ | refine blk_drew ?_ | refine blk_alloc ?_ _)); refine blk_far ?_ NB294_296.out _; (with_reducible repeat (first | refine blk_drewN ?_ _ | refine blk_drew ?_ | refine blk_alloc ?_ _)); refine blk_far ?_ NB294_296.out _; (with_reducible repeat (first | refine blk_drewN ?_ _ | refine blk_drew ?_ | refine blk_alloc ?_ _)); refine blk_far ?_ NB294_296.out _; (with_reducible repeat (first | refine blk_drewN ?_ _ | refine blk_drew ?_ | refine blk_alloc ?_ _)); exact BK294.out⟩, ⟨qD145⟩⟩
               · rw [if_neg c10] at H
                 exact absurd H (by simp)
             · rw [if_neg c9] at H
               exact absurd H (by simp)
           · rw [if_neg c8] at H
             have c8b0 : decide (x23_2 < (l0.length : Int)) = false := decide_eq_false c8; clear c8
             by_cases c20 : x8_2 = true
             · subst c20
               have H1 : (if x5_1.length < 17592186044416 then (rectoref31_Leaves.l0 k2 l0 a1 (x5_1 ++ [((rd_T48 l0 x13_1).f0)]) l0 (l0.length : Int) (wrap64 (x13_1 + 1))) else (none)) = some r := by rw [if_pos rfl] at H; exact H
               clear H; have H := H1; clear H1
               by_cases c21 : x5_1.length < 17592186044416
               · rw [if_pos c21] at H
                 have LMc21 := Aside0.mk c21; clear c21; obtain ⟨y298, hy298⟩ : ∃ y_ : List Int, y_ = (x5_1 ++ [((rd_T48 l0 x13_1).f0)]) := ⟨_, rfl⟩
                 replace H : (rectoref31_Leaves.l0 k2 l0 a1 y298 l0 (l0.length : Int) (wrap64 (x13_1 + 1))) = some r := by first | (rw [hy298]; with_reducible exact H) | (have H2_ := (Option.bind_some _ _).symm.trans H; rw [hy298]; with_reducible exact H2_) | (have H2_ := (Option.bind_some _ _).symm.trans H; with_reducible exact H2_) | with_reducible exact H | (rw [hy298]; exact H) | exact H
                 have Ny298 := Aside0.mk hy298; clear hy298; have H' := Aside0.mk H; clear H; have hcz22_0 : wr.cell? ⟨gb294, 0, none⟩ = some (.int .i64 ((rd_T48 l0 x13_1).f0)) := (blk_cell BK294.out 0).trans rfl; have hcz22_1 : wr.cell? ⟨gb294, 1, none⟩ = some (.string ((rd_T48 l0 x13_1).f1)) := (blk_cell BK294.out 1).trans rfl; have hcz22_2 : wr.cell? ⟨gb294, 2, none⟩ = some (.int .i64 ((rd_T48 l0 x13_1).f2)) := (blk_cell BK294.out 2).trans rfl; have hcz22_3 : wr.cell? ⟨gb294, 3, none⟩ = some (.slice A293_3 ((rd_T48 l0 x13_1).f3).length c293_3) := (blk_cell BK294.out 3).trans rfl; have hfz22_0 := blk_frozen BK294.out 0; have hfz22_1 := blk_frozen BK294.out 1; have hfz22_2 := blk_frozen BK294.out 2; have hfz22_3 := blk_frozen BK294.out 3
                 go_wp2_with (first | ((with_reducible refine gate_builtin (b := .append) (xs := #[.tmp 38, .tmp 41]) rfl ?_); at_builtin; refine Kd.R_append (Kd.int .i64) (w0 := w) w.heap.size rfl (.tmp 38) (.tmp 41) 29 3 (.int .i64 0) 8 rfl Tryd.underlying29 info3 rfl (by decide) (by omega) u5 x5_1 ((rd_T48 l0 x13_1).f0) [.int .i64 ((rd_T48 l0 x13_1).f0)] (fun _ => True) (fun _ => False) rfl rfl ?aP (fun _ hk => hk.elim) ?aF ?aO ?aB ?aS ?aL ?_; (case aP => exact rfl); (case aB => exact qD141); (case aF => exact (fun _ _ => trivial)); (case aO => exact (mRD14 HO_5.out)); (case aS => exact (below_size qD141)); (case aL => have := LMc21.out; omega); intro v299 w23 ho hb hg hat; rw [← Ny298.out] at ho; have n0_ := Aside0.mk (blk_grown (g := gb294) (o := .cells #[.int .i64 ((rd_T48 l0 x13_1).f0), .string ((rd_T48 l0 x13_1).f1), .int .i64 ((rd_T48 l0 x13_1).f2), .slice A293_3 ((rd_T48 l0 x13_1).f3).length c293_3] 48 (0, 0)) qD144 hg (Kd.R_ne HO_5.out BK294.out (by decide))); have n1_ := Aside0.mk (hb); have n2_ := Aside0.mk (ho); clear BK294; clear HB; clear HO_5; have BK294 := n0_; have HB := n1_; have HO300 := n2_; clear n0_ n1_ n2_; clear ho hb hg hat))
                 go_roundg k2
                 case measure => have := HK1.out; have := HK2.out; omega
                 case rel => exact ⟨(y298), (wrap64 (x13_1 + 1)), qD147, H', ⟨by have := HK1.out; have := HK2.out; omega⟩, ⟨by (with_reducible repeat (first | apply Kd.R_alloc | apply Kd.R_drewN | apply Kd.R_drew)); exact HO300.out⟩, ⟨qD141⟩⟩
               · rw [if_neg c21] at H
                 exact absurd H (by simp)
             · replace c20 := Bool.eq_false_iff.mpr c20
               subst c20
               have H1 : (rectoref31_Leaves.l0 k2 l0 a1 x5_1 l0 (l0.length : Int) (wrap64 (x13_1 + 1))) = some r := by rw [if_neg (show ¬ (false = true) by decide)] at H; exact H
               clear H; have H := H1; clear H1; have H' := Aside0.mk H; clear H
               go_wp2
               go_roundg k2
               case measure => have := HK1.out; have := HK2.out; omega
               case rel => exact ⟨(x5_1), (wrap64 (x13_1 + 1)), qD147, H', ⟨by have := HK1.out; have := HK2.out; omega⟩, ⟨by (with_reducible repeat (first | apply Kd.R_alloc | apply Kd.R_drewN | apply Kd.R_drew)); exact HO_5.out⟩, ⟨qD141⟩⟩
       · rw [if_neg c5] at H
         exact absurd H (by simp)
     · rw [if_neg c4] at H
       exact absurd H (by simp)
   · rw [if_neg c3] at H
     have c3b0 : decide (x13_1 < (l0.length : Int)) = false := decide_eq_false c3; clear c3; obtain rfl := Option.some.inj H
     go_wp2
     go_ret
     exact qD1414

end Go.Proofs.YtgopimjfoppkmaaDoor.D
