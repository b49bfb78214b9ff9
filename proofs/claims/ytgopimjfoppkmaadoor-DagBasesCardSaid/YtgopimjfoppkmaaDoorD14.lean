/- Printed functions, each with a proof that the call answers so. -/
import Derived.Test.YtgopimjfoppkmaaDoorD0
import Derived.Test.YtgopimjfoppkmaaDoorD11
import Derived.Test.YtgopimjfoppkmaaDoorD13
namespace Go.Proofs.YtgopimjfoppkmaaDoor.D
open Go.RowKit Go.Proofs.YtgopimjfoppkmaaDoorW.PrintWords Go.Proofs.YtgopimjfoppkmaaDoorW.PrintLast Go.Proofs.YtgopimjfoppkmaaDoorW.PrintMore
attribute [local go_sem] max2_int min2_int max_two min_two max_three min_three max_four min_four   -- for this text's walks alone
set_option linter.unusedVariables false
set_option linter.unusedSimpArgs false

theorem mRD14 {p q : Prop} (x : q) (h : q → p := by intro x_; (with_reducible repeat (first | apply Kd.R_alloc | apply Kd.R_drewN | apply Kd.R_drew)); exact x_) : p := h x
abbrev bD140 : Array Bool := #[false, false, false, false, false, false]
abbrev bD141 : Array Bool := #[true, false, false, false, false, false]
abbrev bD142 : Array Bool := #[true, true, false, false, false, false]
abbrev bD143 : Array Bool := #[true, true, true, false, false, false]
abbrev bD144 : Array Bool := #[true, true, true, true, false, false]
abbrev bD145 : Array Bool := #[true, true, true, true, true, false]
abbrev bD146 : Array Bool := #[true, true, true, true, true, true]
theorem qsD140 {p : Prop} (h : p := by simp only [Act.put, List.setIfInBounds_toArray, List.set_cons_zero, List.set_cons_succ, i64_w, i32_w]; rfl) : p := h
theorem qD140 {p : Prop} (h : p := by repeat (first | (with_reducible first | exact HB.out | apply below_alloc | apply pw_below_drewN | apply below_drew1) | exact HB.out)) : p := h
theorem qD141 {p : Prop} (h : p := by repeat (first | (with_reducible first | exact HB.out | apply below_alloc | apply pw_below_drewN | apply below_drew1 | refine below_set ?_ GE283.out) | exact HB.out)) : p := h
theorem qD142 {p : Prop} (h : p := by first | (with_reducible assumption) | assumption) : p := h
theorem qD143 {p : Prop} (h : p := by repeat (first | exact (Kd.R_reads' HO_5.out).2.2 | (with_reducible refine Kd.C_alloc ?_ _) | (with_reducible refine Kd.C_drewN ?_ _) | (with_reducible refine Kd.C_drew ?_))) : p := h
theorem qD144 {p : Prop} (h : p := by (try simp only [List.map_toArray, List.map_cons, List.map_nil]); first | done | rfl | (simp only [List.length_drop, List.length_take]; rfl)) : p := h
theorem qD145 {p : Prop} (h : p := by first | rfl | (simp only [*]; done) | (simp only [*]; rfl)) : p := h
theorem qD146 {p : Prop} (h : p := by first | rfl | (simp; done) | (simp [*]; done)) : p := h
theorem qD147 {p : Prop} (h : p := by (try simp only [List.map_toArray, List.map_cons, List.map_nil]); first | done | (simp only [ByteArray.size_extract, Nat.min_self]; rfl) | (simp only [hji7]; rfl) | rfl | (simp only [List.length_drop, List.length_take]; rfl)) : p := h
theorem qD148 {p : Prop} (h : p := by first | rfl | (simp [errW_none, errW_some] <;> rfl) | (simp [*, errW_none, errW_some] <;> rfl)) : p := h
theorem qD149 {p : Prop} (h : p := by repeat (first | exact (Kd.C_below HR282_3.out HB.out) | (with_reducible refine Kd.C_alloc ?_ _) | (with_reducible refine Kd.C_drewN ?_ _) | (with_reducible refine Kd.C_drew ?_))) : p := h
theorem qD1410 {p : Prop} (h : p := by repeat (first | exact (Kd.C_below HR287.out HB.out) | (with_reducible refine Kd.C_alloc ?_ _) | (with_reducible refine Kd.C_drewN ?_ _) | (with_reducible refine Kd.C_drew ?_))) : p := h
/-! ### rectoref31_Check: function 13 -/
def rectoref31_Check.l0 : Nat → List (S48) → List (S48) → Int → Int → Option (Int)
 | 0, _, _, _, _ => none
 | k + 1, x0, x8, x9, x10 => if x10 < x9 then (if 0 ≤ x10 then (if x10 < (x8.length : Int) then (if x10 ≤ (x0.length : Int) then ((rectoref31_Right.f k (x0.take (x10 : Int).toNat) ((rd_T48 x8 x10).f0) ((rd_T48 x8 x10).f1) ((rd_T48 x8 x10).f2) ((rd_T48 x8 x10).f3)).bind fun t288 => (if t288 = true then (rectoref31_Check.l0 k x0 x8 x9 (wrap64 (x10 + 1))) else (some 4))) else (none)) else (none)) else (none)) else (some 0)
def rectoref31_Check.f (k : Nat) (l0 : List (S48)) : Option (Int) := if (l0.length : Int) > 1000 then (some 2) else (rectoref31_Check.l0 k l0 l0 (l0.length : Int) 0)
theorem rectoref31_Check.mono_l : ∀ k, (∀ y0 y1 y2 y3, LeO (rectoref31_Check.l0 k y0 y1 y2 y3) (rectoref31_Check.l0 (k + 1) y0 y1 y2 y3))
 | 0 => fun _ _ _ _ r h => by simp [rectoref31_Check.l0] at h
 | k + 1 => by
  have ih0 := rectoref31_Check.mono_l k
  · intro y0 y1 y2 y3
    unfold rectoref31_Check.l0
    repeat' first
    | (with_reducible exact ih0 _ _ _ _)
    | (with_reducible exact rectoref31_Right.mono _ _ _ _ _ _)
    | (with_reducible exact LeO.refl _)
    | (with_reducible exact LeO.none _)
    | (with_reducible refine LeO.ite ?_ ?_)
    | (with_reducible refine LeO.bind ?_ (fun _ => ?_))
    | exact ih0 _ _ _ _
    | exact rectoref31_Right.mono _ _ _ _ _ _
    | exact LeO.none _
    | refine LeO.ite ?_ ?_
    | refine LeO.bind ?_ (fun _ => ?_)
theorem rectoref31_Check.mono : ∀ a0 k, LeO (rectoref31_Check.f k a0) (rectoref31_Check.f (k + 1) a0) := by
 intro a0 k
 have ih0 := rectoref31_Check.mono_l k; unfold rectoref31_Check.f
 repeat' first
  | (with_reducible exact ih0 _ _ _ _)
  | (with_reducible exact rectoref31_Right.mono _ _ _ _ _ _)
  | (with_reducible exact LeO.refl _)
  | (with_reducible exact LeO.none _)
  | (with_reducible refine LeO.ite ?_ ?_)
  | (with_reducible refine LeO.bind ?_ (fun _ => ?_))
  | exact ih0 _ _ _ _
  | exact rectoref31_Right.mono _ _ _ _ _ _
  | exact LeO.none _
  | refine LeO.ite ?_ ?_
  | refine LeO.bind ?_ (fun _ => ?_)
set_option maxHeartbeats 8000000 in
set_option maxRecDepth 100000 in
theorem rectoref31_Check.calls (k : Nat) (A0 : Option Addr) (c0 : Nat) (l0 : List (S48)) (r : Int) (w : World) (hr0 : Kd.C k48 w A0 l0.length l0) (hc0 : l0.length ≤ c0) (h : rectoref31_Check.f k l0 = some r) (HG : Aside0 (Laid w)) :
 Calls Tryd.prog 13 #[.slice A0 l0.length c0] w fun e w' => e = .returned (.int .i64 r) ∧ Below w.heap.size w w' := by
 have hu48 := Tryd.underlying48; have HR0 := Aside0.mk hr0; have HC0 := Aside0.mk hc0; clear hr0 hc0; have HB := Aside0.mk (Below.refl w.heap.size w)
 have H : (if (l0.length : Int) > 1000 then (some 2) else (rectoref31_Check.l0 k l0 l0 (l0.length : Int) 0)) = some r := h
 clear h
 by_cases c2 : (l0.length : Int) > 1000
 · rw [if_pos c2] at H
   have c2b0 : decide (1000 < (l0.length : Int)) = true := decide_eq_true c2; have c2b1 : decide (1000 < l0.length) = true := decide_eq_true (by omega); clear c2; obtain rfl := Option.some.inj H
   go_enter Tryd.func13, Tryd.ntmps13
   go_wp2
   go_ret
   exact ⟨qD148, qD140⟩
 · rw [if_neg c2] at H
   have c2b0 : decide (1000 < (l0.length : Int)) = false := decide_eq_false c2; have c2b1 : decide (1000 < l0.length) = false := decide_eq_false (by omega); clear c2; have H' := Aside0.mk H; clear H
   go_enter Tryd.func13, Tryd.ntmps13
   go_wp2
   go_loopg [10] k (fun kq v10 w' => ∃ (x10_1 : Int), v10 = .int .i64 x10_1 ∧ Aside0 (rectoref31_Check.l0 kq l0 l0 (l0.length : Int) x10_1 = some r) ∧ Aside0 (kq ≤ k) ∧ Aside0 (Below w.heap.size w w'))
   case atStart => exact ⟨(0), qD146, H', ⟨Nat.le_refl _⟩, ⟨qD140⟩⟩
   case round =>
    clear H'; (try clear c1); (try clear c2); (try clear c2b0); (try clear c2b1); (try clear p2); obtain ⟨x10_1, rfl, HA, HK1, HB⟩ := hrel
    cases gk with
    | zero => exact absurd HA.out (by simp [rectoref31_Check.l0])
    | succ k1 =>
     have H := HA.out; clear HA; simp only [rectoref31_Check.l0] at H
     by_cases c3 : x10_1 < (l0.length : Int)
     · rw [if_pos c3] at H
       have c3b0 : decide (x10_1 < (l0.length : Int)) = true := decide_eq_true c3; clear c3
       by_cases c4 : 0 ≤ x10_1
       · rw [if_pos c4] at H
         have c4b0 : decide (0 ≤ x10_1) = true := decide_eq_true c4; clear c4
         by_cases c5 : x10_1 < (l0.length : Int)
         · rw [if_pos c5] at H
           have c5b0 : decide (x10_1 < (l0.length : Int)) = true := decide_eq_true c5; clear c5; have c6b0 := eq_true (of_decide_eq_true qD142 : 0 ≤ x10_1)
           by_cases c7 : x10_1 ≤ (l0.length : Int)
           · rw [if_pos c7] at H
             have c7b0 := eq_true c7; have c7b1 : decide (x10_1 ≤ (l0.length : Int)) = true := decide_eq_true c7; clear c7; obtain ⟨y284, hy284⟩ : ∃ y_ : List (S48), y_ = (l0.take (x10_1 : Int).toNat) := ⟨_, rfl⟩
             replace H : ((rectoref31_Right.f k1 y284 ((rd_T48 l0 x10_1).f0) ((rd_T48 l0 x10_1).f1) ((rd_T48 l0 x10_1).f2) ((rd_T48 l0 x10_1).f3)).bind fun t288 => (if t288 = true then (rectoref31_Check.l0 k1 l0 l0 (l0.length : Int) (wrap64 (x10_1 + 1))) else (some 4))) = some r := by first | (rw [hy284]; with_reducible exact H) | (have H2_ := (Option.bind_some _ _).symm.trans H; rw [hy284]; with_reducible exact H2_) | (have H2_ := (Option.bind_some _ _).symm.trans H; with_reducible exact H2_) | with_reducible exact H | (rw [hy284]; exact H) | exact H
             have Ny284 := Aside0.mk hy284; clear hy284; replace H := Option.bind_eq_some_iff.mp H; obtain ⟨t288, A80, H⟩ := H
             replace H : (if t288 = true then (rectoref31_Check.l0 k1 l0 l0 (l0.length : Int) (wrap64 (x10_1 + 1))) else (some 4)) = some r := H
             have A8 := Aside0.mk A80; clear A80
             by_cases c9 : t288 = true
             · subst c9
               have H1 : (rectoref31_Check.l0 k1 l0 l0 (l0.length : Int) (wrap64 (x10_1 + 1))) = some r := by rw [if_pos rfl] at H; exact H
               clear H; have H := H1; clear H1; have H' := Aside0.mk H; clear H; have p282 : 0 ≤ (x10_1 : Int) := of_decide_eq_true qD142; have q282 : x10_1 < (l0.length : Int) := of_decide_eq_true qD142; obtain ⟨ad282, A282_3, c282_3, e282, hx282_0, hx282_1, hx282_2, hx282_3, hl282_3, hi282_3⟩ := at_T48 HR0.out x10_1 p282 q282; cases e282; replace hx282_0 := (HB.out.cell (World.block_lt_of_cell? w _ hx282_0)).trans hx282_0; replace hx282_1 := (HB.out.cell (World.block_lt_of_cell? w _ hx282_1)).trans hx282_1; replace hx282_2 := (HB.out.cell (World.block_lt_of_cell? w _ hx282_2)).trans hx282_2; replace hx282_3 := (HB.out.cell (World.block_lt_of_cell? w _ hx282_3)).trans hx282_3; have HR282_3 := Aside0.mk hi282_3; have HC282_3 := Aside0.mk hl282_3; clear hi282_3 hl282_3; replace p282 := eq_true p282; replace q282 := eq_true q282
               try go_wp2_with (first | ((with_reducible refine gate_dst (N := 4) rfl ?_); refine box_event ?hg (N := 4) ?hd (cs := #[.int .i64 0, .string (⟨#[]⟩ : ByteArray), .int .i64 0, .slice none 0 0]) (t := 48) ?hr ?_; (case hd => rfl); (case hg => rfl); (case hr => first | (go_simp; done) | (go_simp; rfl)); intro gb283 hg w10 hbox hb; have n0_ := Aside0.mk (below_step qD140 hb); have n1_ := Aside0.mk (hbox); have n2_ := Aside0.mk ((by rw [hg]; exact (below_size qD140) : w.heap.size ≤ gb283)); have n3_ := Aside0.mk ((by rw [hg]; exact (below_size qD140) : w.heap.size ≤ gb283)); clear HB; have HB := n0_; have BK283 := n1_; have GW283 := n2_; have GE283 := n3_; clear n0_ n1_ n2_ n3_; clear hb hbox hg; have hcz11_0 : w10.cell? ⟨gb283, 0, none⟩ = some (.int .i64 0) := (blk_cell BK283.out 0).trans rfl; have hcz11_1 : w10.cell? ⟨gb283, 1, none⟩ = some (.string (⟨#[]⟩ : ByteArray)) := (blk_cell BK283.out 1).trans rfl; have hcz11_2 : w10.cell? ⟨gb283, 2, none⟩ = some (.int .i64 0) := (blk_cell BK283.out 2).trans rfl; have hcz11_3 : w10.cell? ⟨gb283, 3, none⟩ = some (.slice none 0 0) := (blk_cell BK283.out 3).trans rfl; have hfz11_0 := blk_frozen BK283.out 0; have hfz11_1 := blk_frozen BK283.out 1; have hfz11_2 := blk_frozen BK283.out 2; have hfz11_3 := blk_frozen BK283.out 3))
               have n0_ : Aside0 (((((w10.setCell ⟨gb283, 0, none⟩ (.int .i64 ((rd_T48 l0 x10_1).f0))).setCell ⟨gb283, 1, none⟩ (.string ((rd_T48 l0 x10_1).f1))).setCell ⟨gb283, 2, none⟩ (.int .i64 ((rd_T48 l0 x10_1).f2))).setCell ⟨gb283, 3, none⟩ (.slice A282_3 ((rd_T48 l0 x10_1).f3).length c282_3)).heap[gb283]? = some (.cells #[.int .i64 ((rd_T48 l0 x10_1).f0), .string ((rd_T48 l0 x10_1).f1), .int .i64 ((rd_T48 l0 x10_1).f2), .slice A282_3 ((rd_T48 l0 x10_1).f3).length c282_3] 48 (0, 0))) := ⟨by (with_reducible repeat (first | refine blk_drewN ?_ _ | refine blk_drew ?_ | refine blk_alloc ?_ _)); refine blk_put (cs := #[.int .i64 ((rd_T48 l0 x10_1).f0), .string ((rd_T48 l0 x10_1).f1), .int .i64 ((rd_T48 l0 x10_1).f2), .slice none 0 0]) ?_ 3 _ qD145; (with_reducible repeat (first | refine blk_drewN ?_ _ | refine blk_drew ?_ | refine blk_alloc ?_ _)); refine blk_put (cs := #[.int .i64 ((rd_T48 l0 x10_1).f0), .string ((rd_T48 l0 x10_1).f1), .int .i64 0, .slice none 0 0]) ?_ 2 _ qD145; (with_reducible repeat (first | refine blk_drewN ?_ _ | refine blk_drew ?_ | refine blk_alloc ?_ _)); refine blk_put (cs := #[.int .i64 ((rd_T48 l0 x10_1).f0), .string (⟨#[]⟩ : ByteArray), .int .i64 0, .slice none 0 0]) ?_ 1 _ qD145; (with_reducible repeat (first | refine blk_drewN ?_ _ | refine blk_drew ?_ | refine blk_alloc ?_ _)); refine blk_put (cs := #[.int .i64 0, .string (⟨#[]⟩ : ByteArray), .int .i64 0, .slice none 0 0]) ?_ 0 _ qD145; (with_reducible repeat (first | refine blk_drewN ?_ _ | refine blk_drew ?_ | refine blk_alloc ?_ _)); exact BK283.out⟩; have n1_ : Aside0 (Below w.heap.size w ((((w10.setCell ⟨gb283, 0, none⟩ (.int .i64 ((rd_T48 l0 x10_1).f0))).setCell ⟨gb283, 1, none⟩ (.string ((rd_T48 l0 x10_1).f1))).setCell ⟨gb283, 2, none⟩ (.int .i64 ((rd_T48 l0 x10_1).f2))).setCell ⟨gb283, 3, none⟩ (.slice A282_3 ((rd_T48 l0 x10_1).f3).length c282_3))) := ⟨qD141⟩
               (try clear BK283)
               (try clear HB)
               generalize ((((w10.setCell ⟨gb283, 0, none⟩ (.int .i64 ((rd_T48 l0 x10_1).f0))).setCell ⟨gb283, 1, none⟩ (.string ((rd_T48 l0 x10_1).f1))).setCell ⟨gb283, 2, none⟩ (.int .i64 ((rd_T48 l0 x10_1).f2))).setCell ⟨gb283, 3, none⟩ (.slice A282_3 ((rd_T48 l0 x10_1).f3).length c282_3)) = w12 at n0_ n1_ ⊢
               have BK283 := n0_; have HB := n1_; clear n0_ n1_; have n0_ := Aside0.mk (blk_drew BK283.out); have n1_ := Aside0.mk (below_drew1 HB.out); clear BK283; clear HB; have BK283 := n0_; have HB := n1_; clear n0_ n1_; have q14 : (x10_1 : Int) ≤ ((l0.length : Int) : Int) := of_decide_eq_true qD142; obtain ⟨i014, hi014, _, hsz14, _⟩ := info_parts info48; have hroom14 : l0.length ≤ c0 := HC0.out; have hC14 : Kd.C k48 _ (some ad282) l0.length l0 := HR0.out; have hcut14 := cut_to (P := Tryd.prog) 25 48 .i64 Tryd.underlying25 hi014 (some ad282) l0.length c0 x10_1 (of_decide_eq_true qD142) q14 hroom14; have hr14 := Kd.C_take (m := (x10_1 : Int).toNat) hC14 (by omega); have hy14 : y284.length = (x10_1 : Int).toNat := (by rw [Ny284.out, List.length_take]; omega)
               rw [← Ny284.out] at hr14
               rw [← hy14] at hcut14
               have HR287 := Aside0.mk hr14; have HC287 := Aside0.mk (show y284.length ≤ c0 from by omega); clear hr14 hC14 hroom14 hi014 hsz14; have KY14 := Aside0.mk hy14; clear hy14; replace q14 := eq_true q14
               refine start_ (n := 6) (S := fun w' => w'.cell? ⟨gb283, 0, none⟩ = some (.int .i64 ((rd_T48 l0 x10_1).f0)) ∧ w'.cell? ⟨gb283, 1, none⟩ = some (.string ((rd_T48 l0 x10_1).f1)) ∧ w'.cell? ⟨gb283, 2, none⟩ = some (.int .i64 ((rd_T48 l0 x10_1).f2)) ∧ w'.cell? ⟨gb283, 3, none⟩ = some (.slice A282_3 ((rd_T48 l0 x10_1).f3).length c282_3)) (ds := []) bD140 (by kernel_rfl) rfl rfl ⟨(blk_cell BK283.out 0).trans rfl, (blk_cell BK283.out 1).trans rfl, (blk_cell BK283.out 2).trans rfl, (blk_cell BK283.out 3).trans rfl⟩ (fun hHeld => ?_)
               generalize w12.drew = w13 at BK283 HB HR287 hHeld ⊢
               refine pure_ (i := 0) (N := some 15) (v := ?_) (a' := ?_) bD141 rfl rfl (by kernel_rfl) (fun _ _ _ h => h) (Or.inl ⟨by rfl, ?_⟩) ?_ ?_
               rotate_left
               · intro w'
                 go_simp
                 with_reducible rfl
               rotate_left
               · exact qsD140
               refine pure_ (i := 1) (N := some 16) (v := ?_) (a' := ?_) bD142 rfl rfl (by kernel_rfl) (fun _ _ _ h => h) (Or.inl ⟨by rfl, ?_⟩) ?_ ?_
               rotate_left
               · intro w'
                 go_simp
                 with_reducible rfl
               rotate_left
               · exact qsD140
               refine pure_ (i := 2) (N := some 17) (v := ?_) (a' := ?_) bD143 rfl rfl (by kernel_rfl) (fun _ _ _ h => h) (Or.inl ⟨by rfl, ?_⟩) ?_ ?_
               rotate_left
               · intro w'
                 go_simp
                 with_reducible rfl
               rotate_left
               · exact qsD140
               refine take_ (i := 3) (N := some 18) (v := ?_) (a' := ?_) bD144 rfl rfl (by kernel_rfl) (fun _ _ _ h => h) (Or.inl ⟨by rfl, ?_⟩) hHeld ?_ ?_
               rotate_left
               · rintro w' ⟨s0, s1, s2, s3⟩
                 go_simp
                 with_reducible rfl
               rotate_left
               · exact qsD140
               refine one_ (i := 4) (N := some 19) bD145 rfl rfl (by kernel_rfl) (by decide) (fun K hK => ?_)
               refine goes_ Tryd.func31 (by kernel_rfl) rfl #[.slice (some ad282) y284.length c0, .agg #[.int .i64 ((rd_T48 l0 x10_1).f0), .string ((rd_T48 l0 x10_1).f1), .int .i64 ((rd_T48 l0 x10_1).f2), .slice A282_3 ((rd_T48 l0 x10_1).f3).length c282_3]] (by rfl) rfl rfl qD144 ?_
               with_reducible refine (rectoref31_Right.calls k1 _ _ y284 ((rd_T48 l0 x10_1).f0) ((rd_T48 l0 x10_1).f1) ((rd_T48 l0 x10_1).f2) _ _ ((rd_T48 l0 x10_1).f3) true _ ?side1 ?side2 ?side3 ?side4 A8.out ?side5).mono ?_
               (case side1 => exact qD1410)
               (case side2 => exact HC287.out)
               (case side3 => exact qD149)
               (case side4 => exact HC282_3.out)
               (case side5 => exact Aside0.mk (Laid.below HG.out qD141))
               rintro e w15 ⟨rfl, hb⟩
               refine ⟨_, rfl, ?_⟩
               have n0_ := Aside0.mk (blk_below (g := gb283) (o := .cells #[.int .i64 ((rd_T48 l0 x10_1).f0), .string ((rd_T48 l0 x10_1).f1), .int .i64 ((rd_T48 l0 x10_1).f2), .slice A282_3 ((rd_T48 l0 x10_1).f3).length c282_3] 48 (0, 0)) (by (with_reducible repeat (first | refine blk_drewN ?_ _ | refine blk_drew ?_ | refine blk_alloc ?_ _)); exact BK283.out) hb); have n1_ := Aside0.mk (below_step qD141 hb); clear BK283; clear HB; have BK283 := n0_; have HB := n1_; clear n0_ n1_
               (try clear hb)
               (try clear hb2)
               (try clear hk)
               (try clear hi)
               refine hK.out _ _ ⟨(blk_cell BK283.out 0).trans rfl, (blk_cell BK283.out 1).trans rfl, (blk_cell BK283.out 2).trans rfl, (blk_cell BK283.out 3).trans rfl⟩ (fun hHeld => ?_)
               clear hK K
               refine norm_ (a' := ?_) ?_ ?_
               rotate_left
               · show Act.put _ (some 19) _ = _
                 simp only [Act.put, List.setIfInBounds_toArray, List.set_cons_zero, List.set_cons_succ, i64_w, i32_w]
                 rfl
               refine pure_ (i := 5) (N := some 20) (v := ?_) (a' := ?_) bD146 rfl rfl (by kernel_rfl) (fun _ _ _ h => h) (Or.inl ⟨by rfl, ?_⟩) ?_ ?_
               rotate_left
               · intro w'
                 go_simp
                 with_reducible rfl
               rotate_left
               · exact qsD140
               refine done_ (by kernel_rfl) ?_
               try go_wp2
               go_roundg k1
               case measure => have := HK1.out; omega
               case rel => exact ⟨(wrap64 (x10_1 + 1)), qD146, H', ⟨by have := HK1.out; omega⟩, ⟨qD141⟩⟩
             · replace c9 := Bool.eq_false_iff.mpr c9
               subst c9
               have H1 : (some 4) = some r := by rw [if_neg (show ¬ (false = true) by decide)] at H; exact H
               clear H; have H := H1; clear H1; obtain rfl := Option.some.inj H; have p282 : 0 ≤ (x10_1 : Int) := of_decide_eq_true qD142; have q282 : x10_1 < (l0.length : Int) := of_decide_eq_true qD142; obtain ⟨ad282, A282_3, c282_3, e282, hx282_0, hx282_1, hx282_2, hx282_3, hl282_3, hi282_3⟩ := at_T48 HR0.out x10_1 p282 q282; cases e282; replace hx282_0 := (HB.out.cell (World.block_lt_of_cell? w _ hx282_0)).trans hx282_0; replace hx282_1 := (HB.out.cell (World.block_lt_of_cell? w _ hx282_1)).trans hx282_1; replace hx282_2 := (HB.out.cell (World.block_lt_of_cell? w _ hx282_2)).trans hx282_2; replace hx282_3 := (HB.out.cell (World.block_lt_of_cell? w _ hx282_3)).trans hx282_3; have HR282_3 := Aside0.mk hi282_3; have HC282_3 := Aside0.mk hl282_3; clear hi282_3 hl282_3; replace p282 := eq_true p282; replace q282 := eq_true q282
               try go_wp2_with (first | ((with_reducible refine gate_dst (N := 4) rfl ?_); refine box_event ?hg (N := 4) ?hd (cs := #[.int .i64 0, .string (⟨#[]⟩ : ByteArray), .int .i64 0, .slice none 0 0]) (t := 48) ?hr ?_; (case hd => rfl); (case hg => rfl); (case hr => first | (go_simp; done) | (go_simp; rfl)); intro gb283 hg w16 hbox hb; have n0_ := Aside0.mk (below_step qD140 hb); have n1_ := Aside0.mk (hbox); have n2_ := Aside0.mk ((by rw [hg]; exact (below_size qD140) : w.heap.size ≤ gb283)); have n3_ := Aside0.mk ((by rw [hg]; exact (below_size qD140) : w.heap.size ≤ gb283)); clear HB; have HB := n0_; have BK283 := n1_; have GW283 := n2_; have GE283 := n3_; clear n0_ n1_ n2_ n3_; clear hb hbox hg; have hcz17_0 : w16.cell? ⟨gb283, 0, none⟩ = some (.int .i64 0) := (blk_cell BK283.out 0).trans rfl; have hcz17_1 : w16.cell? ⟨gb283, 1, none⟩ = some (.string (⟨#[]⟩ : ByteArray)) := (blk_cell BK283.out 1).trans rfl; have hcz17_2 : w16.cell? ⟨gb283, 2, none⟩ = some (.int .i64 0) := (blk_cell BK283.out 2).trans rfl; have hcz17_3 : w16.cell? ⟨gb283, 3, none⟩ = some (.slice none 0 0) := (blk_cell BK283.out 3).trans rfl; have hfz17_0 := blk_frozen BK283.out 0; have hfz17_1 := blk_frozen BK283.out 1; have hfz17_2 := blk_frozen BK283.out 2; have hfz17_3 := blk_frozen BK283.out 3))
               have n0_ : Aside0 (((((w16.setCell ⟨gb283, 0, none⟩ (.int .i64 ((rd_T48 l0 x10_1).f0))).setCell ⟨gb283, 1, none⟩ (.string ((rd_T48 l0 x10_1).f1))).setCell ⟨gb283, 2, none⟩ (.int .i64 ((rd_T48 l0 x10_1).f2))).setCell ⟨gb283, 3, none⟩ (.slice A282_3 ((rd_T48 l0 x10_1).f3).length c282_3)).heap[gb283]? = some (.cells #[.int .i64 ((rd_T48 l0 x10_1).f0), .string ((rd_T48 l0 x10_1).f1), .int .i64 ((rd_T48 l0 x10_1).f2), .slice A282_3 ((rd_T48 l0 x10_1).f3).length c282_3] 48 (0, 0))) := ⟨by (with_reducible repeat (first | refine blk_drewN ?_ _ | refine blk_drew ?_ | refine blk_alloc ?_ _)); refine blk_put (cs := #[.int .i64 ((rd_T48 l0 x10_1).f0), .string ((rd_T48 l0 x10_1).f1), .int .i64 ((rd_T48 l0 x10_1).f2), .slice none 0 0]) ?_ 3 _ qD145; (with_reducible repeat (first | refine blk_drewN ?_ _ | refine blk_drew ?_ | refine blk_alloc ?_ _)); refine blk_put (cs := #[.int .i64 ((rd_T48 l0 x10_1).f0), .string ((rd_T48 l0 x10_1).f1), .int .i64 0, .slice none 0 0]) ?_ 2 _ qD145; (with_reducible repeat (first | refine blk_drewN ?_ _ | refine blk_drew ?_ | refine blk_alloc ?_ _)); refine blk_put (cs := #[.int .i64 ((rd_T48 l0 x10_1).f0), .string (⟨#[]⟩ : ByteArray), .int .i64 0, .slice none 0 0]) ?_ 1 _ qD145; (with_reducible repeat (first | refine blk_drewN ?_ _ | refine blk_drew ?_ | refine blk_alloc ?_ _)); refine blk_put (cs := #[.int .i64 0, .string (⟨#[]⟩ : ByteArray), .int .i64 0, .slice none 0 0]) ?_ 0 _ qD145; (with_reducible repeat (first | refine blk_drewN ?_ _ | refine blk_drew ?_ | refine blk_alloc ?_ _)); exact BK283.out⟩; have n1_ : Aside0 (Below w.heap.size w ((((w16.setCell ⟨gb283, 0, none⟩ (.int .i64 ((rd_T48 l0 x10_1).f0))).setCell ⟨gb283, 1, none⟩ (.string ((rd_T48 l0 x10_1).f1))).setCell ⟨gb283, 2, none⟩ (.int .i64 ((rd_T48 l0 x10_1).f2))).setCell ⟨gb283, 3, none⟩ (.slice A282_3 ((rd_T48 l0 x10_1).f3).length c282_3))) := ⟨qD141⟩
               (try clear BK283)
               (try clear HB)
               generalize ((((w16.setCell ⟨gb283, 0, none⟩ (.int .i64 ((rd_T48 l0 x10_1).f0))).setCell ⟨gb283, 1, none⟩ (.string ((rd_T48 l0 x10_1).f1))).setCell ⟨gb283, 2, none⟩ (.int .i64 ((rd_T48 l0 x10_1).f2))).setCell ⟨gb283, 3, none⟩ (.slice A282_3 ((rd_T48 l0 x10_1).f3).length c282_3)) = w18 at n0_ n1_ ⊢
               have BK283 := n0_; have HB := n1_; clear n0_ n1_; have n0_ := Aside0.mk (blk_drew BK283.out); have n1_ := Aside0.mk (below_drew1 HB.out); clear BK283; clear HB; have BK283 := n0_; have HB := n1_; clear n0_ n1_; have q20 : (x10_1 : Int) ≤ ((l0.length : Int) : Int) := of_decide_eq_true qD142; obtain ⟨i020, hi020, _, hsz20, _⟩ := info_parts info48; have hroom20 : l0.length ≤ c0 := HC0.out; have hC20 : Kd.C k48 _ (some ad282) l0.length l0 := HR0.out; have hcut20 := cut_to (P := Tryd.prog) 25 48 .i64 Tryd.underlying25 hi020 (some ad282) l0.length c0 x10_1 (of_decide_eq_true qD142) q20 hroom20; have hr20 := Kd.C_take (m := (x10_1 : Int).toNat) hC20 (by omega); have hy20 : y284.length = (x10_1 : Int).toNat := (by rw [Ny284.out, List.length_take]; omega)
               rw [← Ny284.out] at hr20
               rw [← hy20] at hcut20
               have HR287 := Aside0.mk hr20; have HC287 := Aside0.mk (show y284.length ≤ c0 from by omega); clear hr20 hC20 hroom20 hi020 hsz20; have KY20 := Aside0.mk hy20; clear hy20; replace q20 := eq_true q20
               refine start_ (n := 6) (S := fun w' => w'.cell? ⟨gb283, 0, none⟩ = some (.int .i64 ((rd_T48 l0 x10_1).f0)) ∧ w'.cell? ⟨gb283, 1, none⟩ = some (.string ((rd_T48 l0 x10_1).f1)) ∧ w'.cell? ⟨gb283, 2, none⟩ = some (.int .i64 ((rd_T48 l0 x10_1).f2)) ∧ w'.cell? ⟨gb283, 3, none⟩ = some (.slice A282_3 ((rd_T48 l0 x10_1).f3).length c282_3)) (ds := []) bD140 (by kernel_rfl) rfl rfl ⟨(blk_cell BK283.out 0).trans rfl, (blk_cell BK283.out 1).trans rfl, (blk_cell BK283.out 2).trans rfl, (blk_cell BK283.out 3).trans rfl⟩ (fun hHeld => ?_)
               generalize w18.drew = w19 at BK283 HB HR287 hHeld ⊢
               refine pure_ (i := 0) (N := some 15) (v := ?_) (a' := ?_) bD141 rfl rfl (by kernel_rfl) (fun _ _ _ h => h) (Or.inl ⟨by rfl, ?_⟩) ?_ ?_
               rotate_left
               · intro w'
                 go_simp
                 with_reducible rfl
               rotate_left
               · exact qsD140
               refine pure_ (i := 1) (N := some 16) (v := ?_) (a' := ?_) bD142 rfl rfl (by kernel_rfl) (fun _ _ _ h => h) (Or.inl ⟨by rfl, ?_⟩) ?_ ?_
               rotate_left
               · intro w'
                 go_simp
                 with_reducible rfl
               rotate_left
               · exact qsD140
               refine pure_ (i := 2) (N := some 17) (v := ?_) (a' := ?_) bD143 rfl rfl (by kernel_rfl) (fun _ _ _ h => h) (Or.inl ⟨by rfl, ?_⟩) ?_ ?_
               rotate_left
               · intro w'
                 go_simp
                 with_reducible rfl
               rotate_left
               · exact qsD140
               refine take_ (i := 3) (N := some 18) (v := ?_) (a' := ?_) bD144 rfl rfl (by kernel_rfl) (fun _ _ _ h => h) (Or.inl ⟨by rfl, ?_⟩) hHeld ?_ ?_
               rotate_left
               · rintro w' ⟨s0, s1, s2, s3⟩
                 go_simp
                 with_reducible rfl
               rotate_left
               · exact qsD140
               refine one_ (i := 4) (N := some 19) bD145 rfl rfl (by kernel_rfl) (by decide) (fun K hK => ?_)
               refine goes_ Tryd.func31 (by kernel_rfl) rfl #[.slice (some ad282) y284.length c0, .agg #[.int .i64 ((rd_T48 l0 x10_1).f0), .string ((rd_T48 l0 x10_1).f1), .int .i64 ((rd_T48 l0 x10_1).f2), .slice A282_3 ((rd_T48 l0 x10_1).f3).length c282_3]] (by rfl) rfl rfl qD144 ?_
               with_reducible refine (rectoref31_Right.calls k1 _ _ y284 ((rd_T48 l0 x10_1).f0) ((rd_T48 l0 x10_1).f1) ((rd_T48 l0 x10_1).f2) _ _ ((rd_T48 l0 x10_1).f3) false _ ?side1 ?side2 ?side3 ?side4 A8.out ?side5).mono ?_
               (case side1 => exact qD1410)
               (case side2 => exact HC287.out)
               (case side3 => exact qD149)
               (case side4 => exact HC282_3.out)
               (case side5 => exact Aside0.mk (Laid.below HG.out qD141))
               rintro e w21 ⟨rfl, hb⟩
               refine ⟨_, rfl, ?_⟩
               have n0_ := Aside0.mk (blk_below (g := gb283) (o := .cells #[.int .i64 ((rd_T48 l0 x10_1).f0), .string ((rd_T48 l0 x10_1).f1), .int .i64 ((rd_T48 l0 x10_1).f2), .slice A282_3 ((rd_T48 l0 x10_1).f3).length c282_3] 48 (0, 0)) (by (with_reducible repeat (first | refine blk_drewN ?_ _ | refine blk_drew ?_ | refine blk_alloc ?_ _)); exact BK283.out) hb); have n1_ := Aside0.mk (below_step qD141 hb); clear BK283; clear HB; have BK283 := n0_; have HB := n1_; clear n0_ n1_
               (try clear hb)
               (try clear hb2)
               (try clear hk)
               (try clear hi)
               refine hK.out _ _ ⟨(blk_cell BK283.out 0).trans rfl, (blk_cell BK283.out 1).trans rfl, (blk_cell BK283.out 2).trans rfl, (blk_cell BK283.out 3).trans rfl⟩ (fun hHeld => ?_)
               clear hK K
               refine norm_ (a' := ?_) ?_ ?_
               rotate_left
               · show Act.put _ (some 19) _ = _
                 simp only [Act.put, List.setIfInBounds_toArray, List.set_cons_zero, List.set_cons_succ, i64_w, i32_w]
                 rfl
               refine pure_ (i := 5) (N := some 20) (v := ?_) (a' := ?_) bD146 rfl rfl (by kernel_rfl) (fun _ _ _ h => h) (Or.inl ⟨by rfl, ?_⟩) ?_ ?_
               rotate_left
               · intro w'
                 go_simp
                 with_reducible rfl
               rotate_left
               · exact qsD140
               refine done_ (by kernel_rfl) ?_
               try go_wp2
               go_ret
               exact ⟨qD148, qD141⟩
           · rw [if_neg c7] at H
             exact absurd H (by simp)
         · rw [if_neg c5] at H
           exact absurd H (by simp)
       · rw [if_neg c4] at H
         exact absurd H (by simp)
     · rw [if_neg c3] at H
       have c3b0 : decide (x10_1 < (l0.length : Int)) = false := decide_eq_false c3; clear c3; obtain rfl := Option.some.inj H
       go_wp2
       go_ret
       exact ⟨qD148, qD140⟩

/-! ### rectoref31_Ancestors: function 19 -/
mutual
def rectoref31_Ancestors.l0 : Nat → List (S48) → List Int → Int → Option (List Int)
 | 0, _, _, _ => none
 | k + 1, x0, x5, x6 => if x6 < (x5.length : Int) then (if 0 ≤ x6 then (if 0 ≤ (wrap64 ((rd x5 x6) - 1)) then (if (wrap64 ((rd x5 x6) - 1)) < (x0.length : Int) then (rectoref31_Ancestors.l1 k x0 x5 x6 ((rd_T48 x0 (wrap64 ((rd x5 x6) - 1))).f3) (((rd_T48 x0 (wrap64 ((rd x5 x6) - 1))).f3).length : Int) 0) else (none)) else (none)) else (none)) else (rectoref31_Ancestors.l2 k x0 x5 ([] : List Int) 1)
def rectoref31_Ancestors.l1 : Nat → List (S48) → List Int → Int → List Int → Int → Int → Option (List Int)
 | 0, _, _, _, _, _, _ => none
 | k + 1, x0, x5, x6, x27, x28, x29 => if x29 < x28 then (if 0 ≤ x29 then (if x29 < (x27.length : Int) then ((rectoref31_has.f k x5 (rd x27 x29)).bind fun t295 => (if t295 = true then (rectoref31_Ancestors.l1 k x0 x5 x6 x27 x28 (wrap64 (x29 + 1))) else (if x5.length < 17592186044416 then (rectoref31_Ancestors.l1 k x0 (x5 ++ [rd x27 x29]) x6 x27 x28 (wrap64 (x29 + 1))) else (none)))) else (none)) else (none)) else (rectoref31_Ancestors.l0 k x0 x5 (wrap64 (x6 + 1)))
def rectoref31_Ancestors.l2 : Nat → List (S48) → List Int → List Int → Int → Option (List Int)
 | 0, _, _, _, _ => none
 | k + 1, x0, x5, x9, x10 => if x10 ≤ (x0.length : Int) then ((rectoref31_has.f k x5 x10).bind fun t299 => (if t299 = true then (if x9.length < 17592186044416 then (rectoref31_Ancestors.l2 k x0 x5 (x9 ++ [x10]) (wrap64 (x10 + 1))) else (none)) else (rectoref31_Ancestors.l2 k x0 x5 x9 (wrap64 (x10 + 1))))) else (some x9)
end
def rectoref31_Ancestors.f (k : Nat) (l0 : List (S48)) (a1 : Int) : Option (List Int) := rectoref31_Ancestors.l0 k l0 (([a1] : List Int)) 0
theorem rectoref31_Ancestors.mono_l : ∀ k, (∀ y0 y1 y2, LeO (rectoref31_Ancestors.l0 k y0 y1 y2) (rectoref31_Ancestors.l0 (k + 1) y0 y1 y2)) ∧ (∀ y0 y1 y2 y3 y4 y5, LeO (rectoref31_Ancestors.l1 k y0 y1 y2 y3 y4 y5) (rectoref31_Ancestors.l1 (k + 1) y0 y1 y2 y3 y4 y5)) ∧ (∀ y0 y1 y2 y3, LeO (rectoref31_Ancestors.l2 k y0 y1 y2 y3) (rectoref31_Ancestors.l2 (k + 1) y0 y1 y2 y3))
 | 0 => ⟨fun _ _ _ r h => by simp [rectoref31_Ancestors.l0] at h, fun _ _ _ _ _ _ r h => by simp [rectoref31_Ancestors.l1] at h, fun _ _ _ _ r h => by simp [rectoref31_Ancestors.l2] at h⟩
 | k + 1 => by
  obtain ⟨ih0, ih1, ih2⟩ := rectoref31_Ancestors.mono_l k
  refine ⟨?_, ?_, ?_⟩
  · intro y0 y1 y2
    unfold rectoref31_Ancestors.l0
    repeat' first
    | (with_reducible exact ih0 _ _ _)
    | (with_reducible exact ih1 _ _ _ _ _ _)
    | (with_reducible exact ih2 _ _ _ _)
    | (with_reducible exact rectoref31_has.mono _ _ _)
    | (with_reducible exact LeO.refl _)
    | (with_reducible exact LeO.none _)
    | (with_reducible refine LeO.ite ?_ ?_)
    | (with_reducible refine LeO.bind ?_ (fun _ => ?_))
    | exact ih0 _ _ _
    | exact ih1 _ _ _ _ _ _
    | exact ih2 _ _ _ _
    | exact rectoref31_has.mono _ _ _
    | exact LeO.none _
    | refine LeO.ite ?_ ?_
    | refine LeO.bind ?_ (fun _ => ?_)
  · intro y0 y1 y2 y3 y4 y5
    unfold rectoref31_Ancestors.l1
    repeat' first
    | (with_reducible exact ih0 _ _ _)
    | (with_reducible exact ih1 _ _ _ _ _ _)
    | (with_reducible exact ih2 _ _ _ _)
    | (with_reducible exact rectoref31_has.mono _ _ _)
    | (with_reducible exact LeO.refl _)
    | (with_reducible exact LeO.none _)
    | (with_reducible refine LeO.ite ?_ ?_)
    | (with_reducible refine LeO.bind ?_ (fun _ => ?_))
    | exact ih0 _ _ _
    | exact ih1 _ _ _ _ _ _
    | exact ih2 _ _ _ _
    | exact rectoref31_has.mono _ _ _
    | exact LeO.none _
    | refine LeO.ite ?_ ?_
    | refine LeO.bind ?_ (fun _ => ?_)
  · intro y0 y1 y2 y3
    unfold rectoref31_Ancestors.l2
    repeat' first
    | (with_reducible exact ih0 _ _ _)
    | (with_reducible exact ih1 _ _ _ _ _ _)
    | (with_reducible exact ih2 _ _ _ _)
    | (with_reducible exact rectoref31_has.mono _ _ _)
    | (with_reducible exact LeO.refl _)
    | (with_reducible exact LeO.none _)
    | (with_reducible refine LeO.ite ?_ ?_)
    | (with_reducible refine LeO.bind ?_ (fun _ => ?_))
    | exact ih0 _ _ _
    | exact ih1 _ _ _ _ _ _
    | exact ih2 _ _ _ _
    | exact rectoref31_has.mono _ _ _
    | exact LeO.none _
    | refine LeO.ite ?_ ?_
    | refine LeO.bind ?_ (fun _ => ?_)
theorem rectoref31_Ancestors.mono : ∀ a0 a1 k, LeO (rectoref31_Ancestors.f k a0 a1) (rectoref31_Ancestors.f (k + 1) a0 a1) := by
 intro a0 a1 k
 obtain ⟨ih0, ih1, ih2⟩ := rectoref31_Ancestors.mono_l k; unfold rectoref31_Ancestors.f
 repeat' first
  | (with_reducible exact ih0 _ _ _)
  | (with_reducible exact ih1 _ _ _ _ _ _)
  | (with_reducible exact ih2 _ _ _ _)
  | (with_reducible exact rectoref31_has.mono _ _ _)
  | (with_reducible exact LeO.refl _)
  | (with_reducible exact LeO.none _)
  | (with_reducible refine LeO.ite ?_ ?_)
  | (with_reducible refine LeO.bind ?_ (fun _ => ?_))
  | exact ih0 _ _ _
  | exact ih1 _ _ _ _ _ _
  | exact ih2 _ _ _ _
  | exact rectoref31_has.mono _ _ _
  | exact LeO.none _
  | refine LeO.ite ?_ ?_
  | refine LeO.bind ?_ (fun _ => ?_)
set_option maxHeartbeats 8000000 in
set_option maxRecDepth 100000 in
theorem rectoref31_Ancestors.calls (k : Nat) (A0 : Option Addr) (c0 : Nat) (l0 : List (S48)) (a1 : Int) (r : List Int) (w : World) (hr0 : Kd.C k48 w A0 l0.length l0) (hc0 : l0.length ≤ c0) (h : rectoref31_Ancestors.f k l0 a1 = some r) (HG : Aside0 (Laid w)) :
 Calls Tryd.prog 19 #[.slice A0 l0.length c0, .int .i64 a1] w fun e w' => ∃ v0_ : Value, e = .returned (v0_) ∧ Kd.R (Kd.int .i64) 3 w' w.heap.size (fun _ => True) v0_ r ∧ Below w.heap.size w w' := by
 have HR0 := Aside0.mk hr0; have HC0 := Aside0.mk hc0; clear hr0 hc0; have HB := Aside0.mk (Below.refl w.heap.size w); have H : (rectoref31_Ancestors.l0 k l0 (([a1] : List Int)) 0) = some r := h; clear h; obtain ⟨y289, hy289⟩ : ∃ y_ : List Int, y_ = (([a1] : List Int)) := ⟨_, rfl⟩
 replace H : (rectoref31_Ancestors.l0 k l0 y289 0) = some r := by first | (rw [hy289]; with_reducible exact H) | (have H2_ := (Option.bind_some _ _).symm.trans H; rw [hy289]; with_reducible exact H2_) | (have H2_ := (Option.bind_some _ _).symm.trans H; with_reducible exact H2_) | with_reducible exact H | (rw [hy289]; exact H) | exact H
 have Ny289 := Aside0.mk hy289; clear hy289; have H' := Aside0.mk H; clear H
 go_enter Tryd.func19, Tryd.ntmps19
 go_wp2_with (first | ((with_reducible refine gate_dst (N := 12) rfl ?_); refine Kd.R_lit (Kd.int .i64) _ 3 ?hg (N := 12) ?hd (xs := ([a1] : List Int)) (inner := [.int .i64 a1]) (ok := fun _ => True) (okp := fun _ => True) ?hr ?hp (fun _ hk => hk) trivial (Below.refl _ _) (Nat.le_refl _) (by simp) ?_; (case hd => rfl); (case hg => rfl); (case hr => first | (go_simp; done) | (go_simp; rfl)); (case hp => exact (Reps.one (show Kd.M (Kd.int .i64) _ _ _ a1 [.int .i64 a1] from rfl) (Reps.none _ _))); intro v290 w3 ho4 hb hg_ hnew_; clear hg_ hnew_; (first | rw [← Ny289.out] at ho4 | (simp only [Int.reduceToNat] at ho4; rw [← Ny289.out] at ho4)); have n0_ := Aside0.mk (Kd.R_lower ho4 (below_size qD140)); have n1_ := Aside0.mk (below_step qD140 hb); clear HB; have HO291 := n0_; have HB := n1_; clear n0_ n1_; clear hb ho4))
 go_loopg [5, 6] k (fun kq v5 v6 w' => ∃ (x5_1 : List Int) (x6_1 : Int), v6 = .int .i64 x6_1 ∧ Aside0 (rectoref31_Ancestors.l0 kq l0 x5_1 x6_1 = some r) ∧ Aside0 (kq ≤ k) ∧ Aside0 (Kd.R (Kd.int .i64) 3 w' w.heap.size (fun _ => True) v5 x5_1) ∧ Aside0 (Below w.heap.size w w'))
 case atStart => exact ⟨(y289), (0), qD146, H', ⟨Nat.le_refl _⟩, ⟨by (with_reducible repeat (first | apply Kd.R_alloc | apply Kd.R_drewN | apply Kd.R_drew)); exact HO291.out⟩, ⟨qD140⟩⟩
 case round =>
  clear H'; (try clear c1); (try clear p2); obtain ⟨x5_1, x6_1, rfl, HA, HK1, HO_5, HB⟩ := hrel
  cases gk with
  | zero => exact absurd HA.out (by simp [rectoref31_Ancestors.l0])
  | succ k1 =>
   have H := HA.out; clear HA; simp only [rectoref31_Ancestors.l0] at H
   by_cases c5 : x6_1 < (x5_1.length : Int)
   · rw [if_pos c5] at H
     have c5b0 : decide (x6_1 < (x5_1.length : Int)) = true := decide_eq_true c5; clear c5
     by_cases c6 : 0 ≤ x6_1
     · rw [if_pos c6] at H
       have c6b0 : decide (0 ≤ x6_1) = true := decide_eq_true c6; clear c6; obtain ⟨ji7, hji7⟩ : ∃ j_ : Int, (wrap64 ((rd x5_1 x6_1) - 1)) = j_ := ⟨_, rfl⟩
       replace H : (if 0 ≤ (ji7) then (if (ji7) < (l0.length : Int) then (rectoref31_Ancestors.l1 k1 l0 x5_1 x6_1 ((rd_T48 l0 (ji7)).f3) (((rd_T48 l0 (ji7)).f3).length : Int) 0) else (none)) else (none)) = some r := by first | (rw [hji7] at H; exact H) | (simp only [hji7] at H ⊢; exact H)
       have hji7w : (IntKind.i64.wrap ((rd x5_1 x6_1) - 1)) = ji7 := (i64_w _).trans hji7
       by_cases c8 : 0 ≤ (ji7)
       · rw [if_pos c8] at H
         have c8b0 : decide (0 ≤ (ji7)) = true := decide_eq_true c8; clear c8
         by_cases c9 : (ji7) < (l0.length : Int)
         · rw [if_pos c9] at H
           have c9b0 : decide ((ji7) < (l0.length : Int)) = true := decide_eq_true c9; clear c9; have H' := Aside0.mk H; clear H; obtain ⟨Ao10, co10, eo10⟩ := Kd.R_slice HO_5.out; subst eo10; have p292 : 0 ≤ (x6_1 : Int) := of_decide_eq_true qD142; have q292 : x6_1 < (x5_1.length : Int) := of_decide_eq_true qD142; obtain ⟨ad292, e292, hx292_0⟩ := Kd.at_int (Kd.R_reads' HO_5.out).2.2 x6_1 p292 q292; cases e292; replace p292 := eq_true p292; replace q292 := eq_true q292; have p293 : 0 ≤ ((ji7) : Int) := of_decide_eq_true qD142; have q293 : (ji7) < (l0.length : Int) := of_decide_eq_true qD142; obtain ⟨ad293, A293_3, c293_3, e293, hx293_0, hx293_1, hx293_2, hx293_3, hl293_3, hi293_3⟩ := at_T48 HR0.out (ji7) p293 q293; cases e293; replace hx293_0 := (HB.out.cell (World.block_lt_of_cell? w _ hx293_0)).trans hx293_0; replace hx293_1 := (HB.out.cell (World.block_lt_of_cell? w _ hx293_1)).trans hx293_1; replace hx293_2 := (HB.out.cell (World.block_lt_of_cell? w _ hx293_2)).trans hx293_2; replace hx293_3 := (HB.out.cell (World.block_lt_of_cell? w _ hx293_3)).trans hx293_3; have HR293_3 := Aside0.mk hi293_3; have HC293_3 := Aside0.mk hl293_3; clear hi293_3 hl293_3; replace p293 := eq_true p293; replace q293 := eq_true q293
           go_wp2
           go_loopg [5, 29] k1 (fun kq v5 v29 w' => ∃ (x5_2 : List Int) (x29_2 : Int), v29 = .int .i64 x29_2 ∧ Aside0 (rectoref31_Ancestors.l1 kq l0 x5_2 x6_1 ((rd_T48 l0 (ji7)).f3) (((rd_T48 l0 (ji7)).f3).length : Int) x29_2 = some r) ∧ Aside0 (kq ≤ k1) ∧ Aside0 (Kd.R (Kd.int .i64) 3 w' w.heap.size (fun _ => True) v5 x5_2) ∧ Aside0 (Below w.heap.size w w'))
           case atStart => exact ⟨(x5_1), (0), qD146, H', ⟨Nat.le_refl _⟩, ⟨by (with_reducible repeat (first | apply Kd.R_alloc | apply Kd.R_drewN | apply Kd.R_drew)); exact HO_5.out⟩, ⟨qD140⟩⟩
           case round =>
            clear H'; (try clear c1); (try clear c2); (try clear p2); (try clear q2); (try clear hx2); (try clear c5); (try clear c5b0); (try clear c6); (try clear c6b0); (try clear p6); (try clear c8); (try clear c8b0); (try clear c9); (try clear c9b0); (try clear hx292_0); (try clear hx293_0); (try clear hx293_1); (try clear hx293_2); (try clear hx293_3); (try clear p2); (try clear p292); (try clear p293); (try clear q292); (try clear q293); obtain ⟨x5_2, x29_2, rfl, HA, HK2, HO_5, HB⟩ := hrel
            cases gk with
            | zero => exact absurd HA.out (by simp [rectoref31_Ancestors.l1])
            | succ k2 =>
             have H := HA.out; clear HA; simp only [rectoref31_Ancestors.l1] at H
             by_cases c11 : x29_2 < (((rd_T48 l0 (ji7)).f3).length : Int)
             · rw [if_pos c11] at H
               have c11b0 : decide (x29_2 < (((rd_T48 l0 (ji7)).f3).length : Int)) = true := decide_eq_true c11; clear c11
               by_cases c12 : 0 ≤ x29_2
               · rw [if_pos c12] at H
                 have c12b0 : decide (0 ≤ x29_2) = true := decide_eq_true c12; clear c12
                 by_cases c13 : x29_2 < (((rd_T48 l0 (ji7)).f3).length : Int)
                 · rw [if_pos c13] at H
                   have c13b0 : decide (x29_2 < (((rd_T48 l0 (ji7)).f3).length : Int)) = true := decide_eq_true c13; clear c13; replace H := Option.bind_eq_some_iff.mp H; obtain ⟨t295, A140, H⟩ := H
                   replace H : (if t295 = true then (rectoref31_Ancestors.l1 k2 l0 x5_2 x6_1 ((rd_T48 l0 (ji7)).f3) (((rd_T48 l0 (ji7)).f3).length : Int) (wrap64 (x29_2 + 1))) else (if x5_2.length < 17592186044416 then (rectoref31_Ancestors.l1 k2 l0 (x5_2 ++ [rd ((rd_T48 l0 (ji7)).f3) x29_2]) x6_1 ((rd_T48 l0 (ji7)).f3) (((rd_T48 l0 (ji7)).f3).length : Int) (wrap64 (x29_2 + 1))) else (none))) = some r := H
                   have A14 := Aside0.mk A140; clear A140
                   by_cases c15 : t295 = true
                   · subst c15
                     have H1 : (rectoref31_Ancestors.l1 k2 l0 x5_2 x6_1 ((rd_T48 l0 (ji7)).f3) (((rd_T48 l0 (ji7)).f3).length : Int) (wrap64 (x29_2 + 1))) = some r := by rw [if_pos rfl] at H; exact H
                     clear H; have H := H1; clear H1; have H' := Aside0.mk H; clear H; have p294 : 0 ≤ (x29_2 : Int) := of_decide_eq_true qD142; have q294 : x29_2 < (((rd_T48 l0 (ji7)).f3).length : Int) := of_decide_eq_true qD142; obtain ⟨ad294, e294, hx294_0⟩ := Kd.at_int HR293_3.out x29_2 p294 q294; cases e294; replace hx294_0 := (HB.out.cell (World.block_lt_of_cell? w _ hx294_0)).trans hx294_0; replace p294 := eq_true p294; replace q294 := eq_true q294; obtain ⟨Ao16, co16, eo16⟩ := Kd.R_slice HO_5.out; subst eo16
                     go_wp2_with (first | ((with_reducible refine gate_callee (f := 32) rfl ?_); refine goesL_ (some 35) rfl rfl Tryd.func32 (by kernel_rfl) rfl #[.slice Ao16 x5_2.length co16, .int .i64 (rd ((rd_T48 l0 (ji7)).f3) x29_2)] rfl qD147 ?_; (with_reducible refine (rectoref31_has.calls k2 _ _ x5_2 (rd ((rd_T48 l0 (ji7)).f3) x29_2) true _ ?side1 ?side2 A14.out ?side3).mono ?_); (case side1 => exact qD143); (case side2 => exact (Kd.R_reads' HO_5.out).2.1); (case side3 => exact Aside0.mk (Laid.below HG.out qD140)); rintro e w' ⟨rfl, ⟨nd, rfl⟩⟩; refine ⟨_, rfl, ?_⟩))
                     go_roundg k2
                     case measure => have := HK1.out; have := HK2.out; omega
                     case rel => exact ⟨(x5_2), (wrap64 (x29_2 + 1)), qD146, H', ⟨by have := HK1.out; have := HK2.out; omega⟩, ⟨by (with_reducible repeat (first | apply Kd.R_alloc | apply Kd.R_drewN | apply Kd.R_drew)); exact HO_5.out⟩, ⟨qD140⟩⟩
                   · replace c15 := Bool.eq_false_iff.mpr c15
                     subst c15
                     have H1 : (if x5_2.length < 17592186044416 then (rectoref31_Ancestors.l1 k2 l0 (x5_2 ++ [rd ((rd_T48 l0 (ji7)).f3) x29_2]) x6_1 ((rd_T48 l0 (ji7)).f3) (((rd_T48 l0 (ji7)).f3).length : Int) (wrap64 (x29_2 + 1))) else (none)) = some r := by rw [if_neg (show ¬ (false = true) by decide)] at H; exact H
                     clear H; have H := H1; clear H1
                     by_cases c17 : x5_2.length < 17592186044416
                     · rw [if_pos c17] at H
                       have LMc17 := Aside0.mk c17; clear c17; obtain ⟨y296, hy296⟩ : ∃ y_ : List Int, y_ = (x5_2 ++ [rd ((rd_T48 l0 (ji7)).f3) x29_2]) := ⟨_, rfl⟩
                       replace H : (rectoref31_Ancestors.l1 k2 l0 y296 x6_1 ((rd_T48 l0 (ji7)).f3) (((rd_T48 l0 (ji7)).f3).length : Int) (wrap64 (x29_2 + 1))) = some r := by first | (rw [hy296]; with_reducible exact H) | (have H2_ := (Option.bind_some _ _).symm.trans H; rw [hy296]; with_reducible exact H2_) | (have H2_ := (Option.bind_some _ _).symm.trans H; with_reducible exact H2_) | with_reducible exact H | (rw [hy296]; exact H) | exact H
                       have Ny296 := Aside0.mk hy296; clear hy296; have H' := Aside0.mk H; clear H; have p294 : 0 ≤ (x29_2 : Int) := of_decide_eq_true qD142; have q294 : x29_2 < (((rd_T48 l0 (ji7)).f3).length : Int) := of_decide_eq_true qD142; obtain ⟨ad294, e294, hx294_0⟩ := Kd.at_int HR293_3.out x29_2 p294 q294; cases e294; replace hx294_0 := (HB.out.cell (World.block_lt_of_cell? w _ hx294_0)).trans hx294_0; replace p294 := eq_true p294; replace q294 := eq_true q294; obtain ⟨Ao18, co18, eo18⟩ := Kd.R_slice HO_5.out; subst eo18
                       go_wp2_with (first | ((with_reducible refine gate_callee (f := 32) rfl ?_); refine goesL_ (some 35) rfl rfl Tryd.func32 (by kernel_rfl) rfl #[.slice Ao18 x5_2.length co18, .int .i64 (rd ((rd_T48 l0 (ji7)).f3) x29_2)] rfl qD147 ?_; (with_reducible refine (rectoref31_has.calls k2 _ _ x5_2 (rd ((rd_T48 l0 (ji7)).f3) x29_2) false _ ?side1 ?side2 A14.out ?side3).mono ?_); (case side1 => exact qD143); (case side2 => exact (Kd.R_reads' HO_5.out).2.1); (case side3 => exact Aside0.mk (Laid.below HG.out qD140)); rintro e w' ⟨rfl, ⟨nd, rfl⟩⟩; refine ⟨_, rfl, ?_⟩) | ((with_reducible refine gate_builtin (b := .append) (xs := #[.tmp 37, .tmp 39]) rfl ?_); at_builtin; refine Kd.R_append (Kd.int .i64) (w0 := w) w.heap.size rfl (.tmp 37) (.tmp 39) 29 3 (.int .i64 0) 8 rfl Tryd.underlying29 info3 rfl (by decide) (by omega) (.slice Ao18 x5_2.length co18) x5_2 (rd ((rd_T48 l0 (ji7)).f3) x29_2) [.int .i64 (rd ((rd_T48 l0 (ji7)).f3) x29_2)] (fun _ => True) (fun _ => False) rfl rfl ?aP (fun _ hk => hk.elim) ?aF ?aO ?aB ?aS ?aL ?_; (case aP => exact rfl); (case aB => exact qD140); (case aF => exact (fun _ _ => trivial)); (case aO => exact (mRD14 HO_5.out)); (case aS => exact (below_size qD140)); (case aL => have := LMc17.out; omega); intro v297 w19 ho hb hg hat; rw [← Ny296.out] at ho; have n0_ := Aside0.mk (hb); have n1_ := Aside0.mk (ho); clear HB; clear HO_5; have HB := n0_; have HO298 := n1_; clear n0_ n1_; clear ho hb hg hat))
                       go_roundg k2
                       case measure => have := HK1.out; have := HK2.out; omega
                       case rel => exact ⟨(y296), (wrap64 (x29_2 + 1)), qD146, H', ⟨by have := HK1.out; have := HK2.out; omega⟩, ⟨by (with_reducible repeat (first | apply Kd.R_alloc | apply Kd.R_drewN | apply Kd.R_drew)); exact HO298.out⟩, ⟨qD140⟩⟩
                     · rw [if_neg c17] at H
                       exact absurd H (by simp)
                 · rw [if_neg c13] at H
                   exact absurd H (by simp)
               · rw [if_neg c12] at H
                 exact absurd H (by simp)
             · rw [if_neg c11] at H
               have c11b0 : decide (x29_2 < (((rd_T48 l0 (ji7)).f3).length : Int)) = false := decide_eq_false c11; clear c11; have H' := Aside0.mk H; clear H
               go_wp2
               go_roundg k2
               case measure => have := HK1.out; have := HK2.out; omega
               case rel => exact ⟨(x5_2), (wrap64 (x6_1 + 1)), qD146, H', ⟨by have := HK1.out; have := HK2.out; omega⟩, ⟨by (with_reducible repeat (first | apply Kd.R_alloc | apply Kd.R_drewN | apply Kd.R_drew)); exact HO_5.out⟩, ⟨qD140⟩⟩
         · rw [if_neg c9] at H
           exact absurd H (by simp)
       · rw [if_neg c8] at H
         exact absurd H (by simp)
     · rw [if_neg c6] at H
       exact absurd H (by simp)
   · rw [if_neg c5] at H
     have c5b0 : decide (x6_1 < (x5_1.length : Int)) = false := decide_eq_false c5; clear c5; have H' := Aside0.mk H; clear H; obtain ⟨Ao20, co20, eo20⟩ := Kd.R_slice HO_5.out; subst eo20
     go_wp2
     go_loopg [9, 10] k1 (fun kq v9 v10 w' => ∃ (x9_2 : List Int) (x10_2 : Int), v10 = .int .i64 x10_2 ∧ Aside0 (rectoref31_Ancestors.l2 kq l0 x5_1 x9_2 x10_2 = some r) ∧ Aside0 (kq ≤ k1) ∧ Aside0 (Kd.R (Kd.int .i64) 3 w' w.heap.size (fun k_ => some k_ ≠ (v9 : Value).ownBlock) (.slice Ao20 x5_1.length co20) x5_1) ∧ Aside0 (Kd.R (Kd.int .i64) 3 w' w.heap.size (fun k_ => some k_ ≠ ((.slice Ao20 x5_1.length co20) : Value).ownBlock) v9 x9_2) ∧ Aside0 (Below w.heap.size w w'))
     case atStart => exact ⟨(([] : List Int)), (1), qD146, H', ⟨Nat.le_refl _⟩, ⟨by (with_reducible repeat (first | apply Kd.R_alloc | apply Kd.R_drewN | apply Kd.R_drew)); exact Kd.R_mono HO_5.out (fun _ hk => (by simp [Value.ownBlock]))⟩, ⟨by first | exact Kd.R_nil _ _ _ _ _ | exact Kd.N_nil _ _ _ _ _ | exact Kd.V_nil _ _ _ _ _ | exact Kd.Q_nil _ _ _ _ _ | exact Kd.S_nil _ _ _ _ _⟩, ⟨qD140⟩⟩
     case round =>
      clear H'; (try clear c1); (try clear c2); (try clear p2); (try clear q2); (try clear hx2); (try clear c3); (try clear c5); (try clear c5b0); (try clear c6); (try clear c6b0); (try clear p6); (try clear c8); (try clear c8b0); (try clear c9); (try clear c9b0); (try clear c11); (try clear c11b0); (try clear c12); (try clear c12b0); (try clear c13); (try clear c13b0); (try clear c15); (try clear c17); (try clear c19); (try clear hx292_0); (try clear hx293_0); (try clear hx293_1); (try clear hx293_2); (try clear hx293_3); (try clear hx294_0); (try clear p2); (try clear p292); (try clear p293); (try clear p294); (try clear p6); (try clear q2); (try clear q292); (try clear q293); (try clear q294); obtain ⟨x9_2, x10_2, rfl, HA, HK2, HO_5, HO_9, HB⟩ := hrel
      cases gk with
      | zero => exact absurd HA.out (by simp [rectoref31_Ancestors.l2])
      | succ k2 =>
       have H := HA.out; clear HA; simp only [rectoref31_Ancestors.l2] at H
       by_cases c21 : x10_2 ≤ (l0.length : Int)
       · rw [if_pos c21] at H
         have c21b0 : decide (x10_2 ≤ (l0.length : Int)) = true := decide_eq_true c21; clear c21; replace H := Option.bind_eq_some_iff.mp H; obtain ⟨t299, A220, H⟩ := H
         replace H : (if t299 = true then (if x9_2.length < 17592186044416 then (rectoref31_Ancestors.l2 k2 l0 x5_1 (x9_2 ++ [x10_2]) (wrap64 (x10_2 + 1))) else (none)) else (rectoref31_Ancestors.l2 k2 l0 x5_1 x9_2 (wrap64 (x10_2 + 1)))) = some r := H
         have A22 := Aside0.mk A220; clear A220
         by_cases c23 : t299 = true
         · subst c23
           have H1 : (if x9_2.length < 17592186044416 then (rectoref31_Ancestors.l2 k2 l0 x5_1 (x9_2 ++ [x10_2]) (wrap64 (x10_2 + 1))) else (none)) = some r := by rw [if_pos rfl] at H; exact H
           clear H; have H := H1; clear H1
           by_cases c24 : x9_2.length < 17592186044416
           · rw [if_pos c24] at H
             have LMc24 := Aside0.mk c24; clear c24; obtain ⟨y300, hy300⟩ : ∃ y_ : List Int, y_ = (x9_2 ++ [x10_2]) := ⟨_, rfl⟩
             replace H : (rectoref31_Ancestors.l2 k2 l0 x5_1 y300 (wrap64 (x10_2 + 1))) = some r := by first | (rw [hy300]; with_reducible exact H) | (have H2_ := (Option.bind_some _ _).symm.trans H; rw [hy300]; with_reducible exact H2_) | (have H2_ := (Option.bind_some _ _).symm.trans H; with_reducible exact H2_) | with_reducible exact H | (rw [hy300]; exact H) | exact H
             have Ny300 := Aside0.mk hy300; clear hy300; have H' := Aside0.mk H; clear H
             go_wp2_with (first | ((with_reducible refine gate_callee (f := 32) rfl ?_); refine goesL_ (some 50) rfl rfl Tryd.func32 (by kernel_rfl) rfl #[.slice Ao20 x5_1.length co20, .int .i64 x10_2] rfl qD144 ?_; (with_reducible refine (rectoref31_has.calls k2 _ _ x5_1 x10_2 true _ ?side1 ?side2 A22.out ?side3).mono ?_); (case side1 => exact qD143); (case side2 => exact (Kd.R_reads' HO_5.out).2.1); (case side3 => exact Aside0.mk (Laid.below HG.out qD140)); rintro e w' ⟨rfl, ⟨nd, rfl⟩⟩; refine ⟨_, rfl, ?_⟩) | ((with_reducible refine gate_builtin (b := .append) (xs := #[.tmp 51, .tmp 53]) rfl ?_); at_builtin; refine Kd.R_append (Kd.int .i64) (w0 := w) w.heap.size rfl (.tmp 51) (.tmp 53) 29 3 (.int .i64 0) 8 rfl Tryd.underlying29 info3 rfl (by decide) (by omega) u9 x9_2 x10_2 [.int .i64 x10_2] (fun k_ => some k_ ≠ (.slice Ao20 x5_1.length co20 : Value).ownBlock) (fun _ => False) rfl rfl ?aP (fun _ hk => hk.elim) ?aF ?aO ?aB ?aS ?aL ?_; (case aP => exact rfl); (case aB => exact qD140); (case aF => exact (fun k_ hk => Kd.fresh' (Kd.R_lt (mRD14 HO_5.out)) k_ hk)); (case aO => exact (mRD14 HO_9.out)); (case aS => exact (below_size qD140)); (case aL => have := LMc24.out; omega); intro v301 w25 ho hb hg hat; rw [← Ny300.out] at ho; have n0_ := Aside0.mk (Kd.R_after (ok := (fun _ => True)) (by (with_reducible repeat (first | apply Kd.R_alloc | apply Kd.R_drewN | apply Kd.R_drew)); exact Kd.R_mono HO_5.out (fun _ hk => ⟨trivial, hk⟩)) hg hat); have n1_ := Aside0.mk (hb); have n2_ := Aside0.mk (ho); clear HO_5; clear HB; clear HO_9; have HO_5 := n0_; have HB := n1_; have HO302 := n2_; clear n0_ n1_ n2_; clear ho hb hg hat))
             go_roundg k2
             case measure => have := HK1.out; have := HK2.out; omega
             case rel => exact ⟨(y300), (wrap64 (x10_2 + 1)), qD146, H', ⟨by have := HK1.out; have := HK2.out; omega⟩, ⟨by (with_reducible repeat (first | apply Kd.R_alloc | apply Kd.R_drewN | apply Kd.R_drew)); exact Kd.R_mono HO_5.out (fun _ hk => hk.2)⟩, ⟨by (with_reducible repeat (first | apply Kd.R_alloc | apply Kd.R_drewN | apply Kd.R_drew)); exact HO302.out⟩, ⟨qD140⟩⟩
           · rw [if_neg c24] at H
             exact absurd H (by simp)
         · replace c23 := Bool.eq_false_iff.mpr c23
           subst c23
           have H1 : (rectoref31_Ancestors.l2 k2 l0 x5_1 x9_2 (wrap64 (x10_2 + 1))) = some r := by rw [if_neg (show ¬ (false = true) by decide)] at H; exact H
           clear H; have H := H1; clear H1; have H' := Aside0.mk H; clear H
           go_wp2_with (first | ((with_reducible refine gate_callee (f := 32) rfl ?_); refine goesL_ (some 50) rfl rfl Tryd.func32 (by kernel_rfl) rfl #[.slice Ao20 x5_1.length co20, .int .i64 x10_2] rfl qD144 ?_; (with_reducible refine (rectoref31_has.calls k2 _ _ x5_1 x10_2 false _ ?side1 ?side2 A22.out ?side3).mono ?_); (case side1 => exact qD143); (case side2 => exact (Kd.R_reads' HO_5.out).2.1); (case side3 => exact Aside0.mk (Laid.below HG.out qD140)); rintro e w' ⟨rfl, ⟨nd, rfl⟩⟩; refine ⟨_, rfl, ?_⟩))
           go_roundg k2
           case measure => have := HK1.out; have := HK2.out; omega
           case rel => exact ⟨(x9_2), (wrap64 (x10_2 + 1)), qD146, H', ⟨by have := HK1.out; have := HK2.out; omega⟩, ⟨by (with_reducible repeat (first | apply Kd.R_alloc | apply Kd.R_drewN | apply Kd.R_drew)); exact HO_5.out⟩, ⟨by (with_reducible repeat (first | apply Kd.R_alloc | apply Kd.R_drewN | apply Kd.R_drew)); exact HO_9.out⟩, ⟨qD140⟩⟩
       · rw [if_neg c21] at H
         have c21b0 : decide (x10_2 ≤ (l0.length : Int)) = false := decide_eq_false c21; clear c21; obtain rfl := Option.some.inj H
         go_wp2
         go_ret
         exact ⟨_, qD148, by (with_reducible repeat (first | apply Kd.R_alloc | apply Kd.R_drewN | apply Kd.R_drew)); exact Kd.R_mono HO_9.out (fun _ hk => trivial), qD140⟩

end Go.Proofs.YtgopimjfoppkmaaDoor.D
