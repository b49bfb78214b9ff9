/- Printed functions, each with a proof that the call answers so. -/
import Derived.Test.YtgopimjfoppkmaaDoorD0
import Derived.Test.YtgopimjfoppkmaaDoorD1
import Derived.Test.YtgopimjfoppkmaaDoorD8
import Derived.Test.YtgopimjfoppkmaaDoorD9
import Derived.Test.YtgopimjfoppkmaaDoorD11
import Derived.Test.YtgopimjfoppkmaaDoorD14
namespace Go.Proofs.YtgopimjfoppkmaaDoor.D
open Go.RowKit Go.Proofs.YtgopimjfoppkmaaDoorW.PrintWords Go.Proofs.YtgopimjfoppkmaaDoorW.PrintLast Go.Proofs.YtgopimjfoppkmaaDoorW.PrintMore
attribute [local go_sem] max2_int min2_int max_two min_two max_three min_three max_four min_four   -- for this text's walks alone
set_option linter.unusedVariables false
set_option linter.unusedSimpArgs false

theorem mRD15 {p q : Prop} (x : q) (h : q → p := by intro x_; (with_reducible repeat (first | apply Kd.R_alloc | apply Kd.R_drewN | apply Kd.R_drew)); exact x_) : p := h x
theorem mND15 {p q : Prop} (x : q) (h : q → p := by intro x_; (with_reducible repeat (first | apply Kd.N_alloc | apply Kd.N_drewN | apply Kd.N_drew)); exact x_) : p := h x
theorem mCD15 {p q : Prop} (x : q) (h : q → p := by intro x_; repeat (first | exact x_ | (with_reducible refine Kd.C_alloc ?_ _) | (with_reducible refine Kd.C_drewN ?_ _) | (with_reducible refine Kd.C_drew ?_))) : p := h x
theorem qD150 {p : Prop} (h : p := by repeat (first | (with_reducible first | exact HB.out | apply below_alloc | apply pw_below_drewN | apply below_drew1) | exact HB.out)) : p := h
theorem qD151 {p : Prop} (h : p := by (try simp only [List.map_toArray, List.map_cons, List.map_nil]); first | done | rfl | (simp only [List.length_drop, List.length_take]; rfl)) : p := h
theorem qD152 {p : Prop} (h : p := by repeat (first | exact (Kd.C_below HR0.out HB.out) | (with_reducible refine Kd.C_alloc ?_ _) | (with_reducible refine Kd.C_drewN ?_ _) | (with_reducible refine Kd.C_drew ?_))) : p := h
theorem qD153 {p : Prop} (h : p := by repeat (first | exact (Kd.N_reads' HO315.out).2.2 | (with_reducible refine Kd.C_alloc ?_ _) | (with_reducible refine Kd.C_drewN ?_ _) | (with_reducible refine Kd.C_drew ?_))) : p := h
theorem qD154 {p : Prop} (h : p := by repeat (first | exact (Kd.R_reads' HO_8.out).2.2 | (with_reducible refine Kd.C_alloc ?_ _) | (with_reducible refine Kd.C_drewN ?_ _) | (with_reducible refine Kd.C_drew ?_))) : p := h
theorem qD155 {p : Prop} (h : p := by first | rfl | (simp; done) | (simp [*]; done)) : p := h
theorem qD156 {p : Prop} (h : p := by first | rfl | (simp [errW_none, errW_some] <;> rfl) | (simp [*, errW_none, errW_some] <;> rfl)) : p := h
theorem qD157 {p : Prop} (h : p := by repeat (first | exact (Kd.N_reads' HO_7.out).2.2 | (with_reducible refine Kd.C_alloc ?_ _) | (with_reducible refine Kd.C_drewN ?_ _) | (with_reducible refine Kd.C_drew ?_))) : p := h
theorem qD158 {p : Prop} (h : p := by first | (with_reducible assumption) | assumption) : p := h
theorem qD159 {p : Prop} (h : p := by exact Aside0.mk (Laid.below HG.out qD150)) : p := h
/-! ### rectoref31_Base: function 20 -/
def rectoref31_Base.l0 : Nat → List Int → Int → List Int → Int → Int → Option (Int)
 | 0, _, _, _, _, _ => none
 | k + 1, x8, x9, x18, x19, x20 => if x20 < x19 then (if 0 ≤ x20 then (if x20 < (x18.length : Int) then ((rectoref31_has.f k x8 (rd x18 x20)).bind fun t310 => (if t310 = true then (rectoref31_Base.l0 k x8 (rd x18 x20) x18 x19 (wrap64 (x20 + 1))) else (rectoref31_Base.l0 k x8 x9 x18 x19 (wrap64 (x20 + 1))))) else (none)) else (none)) else (some x9)
def rectoref31_Base.f (k : Nat) (l0 : List (S48)) (a1 : Int) (a2 : Int) : Option (Int) := (rectoref31_Ancestors.f k l0 a1).bind fun t303 => ((rectoref31_Ancestors.f k l0 a2).bind fun t306 => (rectoref31_Base.l0 k t306 0 t303 (t303.length : Int) 0))
theorem rectoref31_Base.mono_l : ∀ k, (∀ y0 y1 y2 y3 y4, LeO (rectoref31_Base.l0 k y0 y1 y2 y3 y4) (rectoref31_Base.l0 (k + 1) y0 y1 y2 y3 y4))
 | 0 => fun _ _ _ _ _ r h => by simp [rectoref31_Base.l0] at h
 | k + 1 => by
  have ih0 := rectoref31_Base.mono_l k
  · intro y0 y1 y2 y3 y4
    unfold rectoref31_Base.l0
    repeat' first
    | (with_reducible exact ih0 _ _ _ _ _)
    | (with_reducible exact rectoref31_Ancestors.mono _ _ _)
    | (with_reducible exact rectoref31_has.mono _ _ _)
    | (with_reducible exact LeO.refl _)
    | (with_reducible exact LeO.none _)
    | (with_reducible refine LeO.ite ?_ ?_)
    | (with_reducible refine LeO.bind ?_ (fun _ => ?_))
    | exact ih0 _ _ _ _ _
    | exact rectoref31_Ancestors.mono _ _ _
    | exact rectoref31_has.mono _ _ _
    | exact LeO.none _
    | refine LeO.ite ?_ ?_
    | refine LeO.bind ?_ (fun _ => ?_)
theorem rectoref31_Base.mono : ∀ a0 a1 a2 k, LeO (rectoref31_Base.f k a0 a1 a2) (rectoref31_Base.f (k + 1) a0 a1 a2) := by
 intro a0 a1 a2 k
 have ih0 := rectoref31_Base.mono_l k; unfold rectoref31_Base.f
 repeat' first
  | (with_reducible exact ih0 _ _ _ _ _)
  | (with_reducible exact rectoref31_Ancestors.mono _ _ _)
  | (with_reducible exact rectoref31_has.mono _ _ _)
  | (with_reducible exact LeO.refl _)
  | (with_reducible exact LeO.none _)
  | (with_reducible refine LeO.ite ?_ ?_)
  | (with_reducible refine LeO.bind ?_ (fun _ => ?_))
  | exact ih0 _ _ _ _ _
  | exact rectoref31_Ancestors.mono _ _ _
  | exact rectoref31_has.mono _ _ _
  | exact LeO.none _
  | refine LeO.ite ?_ ?_
  | refine LeO.bind ?_ (fun _ => ?_)
set_option maxHeartbeats 8000000 in
set_option maxRecDepth 100000 in
theorem rectoref31_Base.calls (k : Nat) (A0 : Option Addr) (c0 : Nat) (l0 : List (S48)) (a1 : Int) (a2 : Int) (r : Int) (w : World) (hr0 : Kd.C k48 w A0 l0.length l0) (hc0 : l0.length ≤ c0) (h : rectoref31_Base.f k l0 a1 a2 = some r) (HG : Aside0 (Laid w)) :
 Calls Tryd.prog 20 #[.slice A0 l0.length c0, .int .i64 a1, .int .i64 a2] w fun e w' => e = .returned (.int .i64 r) ∧ Below w.heap.size w w' := by
 have HR0 := Aside0.mk hr0; have HC0 := Aside0.mk hc0; clear hr0 hc0; have HB := Aside0.mk (Below.refl w.heap.size w)
 have H : ((rectoref31_Ancestors.f k l0 a1).bind fun t303 => ((rectoref31_Ancestors.f k l0 a2).bind fun t306 => (rectoref31_Base.l0 k t306 0 t303 (t303.length : Int) 0))) = some r := h
 clear h; replace H := Option.bind_eq_some_iff.mp H; obtain ⟨t303, A40, H⟩ := H
 replace H : ((rectoref31_Ancestors.f k l0 a2).bind fun t306 => (rectoref31_Base.l0 k t306 0 t303 (t303.length : Int) 0)) = some r := H
 have A4 := Aside0.mk A40; clear A40; replace H := Option.bind_eq_some_iff.mp H; obtain ⟨t306, A50, H⟩ := H; replace H : (rectoref31_Base.l0 k t306 0 t303 (t303.length : Int) 0) = some r := H; have A5 := Aside0.mk A50; clear A50; have H' := Aside0.mk H; clear H
 go_enter Tryd.func20, Tryd.ntmps20
 go_wp2_with (first | ((with_reducible refine gate_callee (f := 19) rfl ?_); refine goesL_ (some 14) rfl rfl Tryd.func19 (by kernel_rfl) rfl #[.slice A0 l0.length c0, .int .i64 a1] rfl qD151 ?_; (with_reducible refine (rectoref31_Ancestors.calls k _ _ l0 a1 t303 _ ?side1 ?side2 A4.out ?side3).mono ?_); (case side1 => exact mCD15 HR0.out); (case side2 => exact HC0.out); (case side3 => exact qD159); rintro e w6 ⟨v304, rfl, ho0, hb⟩; refine ⟨_, rfl, ?_⟩; have n0_ := Aside0.mk (Kd.R_lower ho0 (below_size qD150)); have n1_ := Aside0.mk (below_step qD150 hb); clear HB; have HO305 := n0_; have HB := n1_; clear n0_ n1_; (try clear hb); (try clear hb2); (try clear hk); (try clear hi); (try clear ho0)) | ((with_reducible refine gate_callee (f := 19) rfl ?_); refine goesL_ (some 17) rfl rfl Tryd.func19 (by kernel_rfl) rfl #[.slice A0 l0.length c0, .int .i64 a2] rfl qD151 ?_; (with_reducible refine (rectoref31_Ancestors.calls k _ _ l0 a2 t306 _ ?side1 ?side2 A5.out ?side3).mono ?_); (case side1 => exact qD152); (case side2 => exact HC0.out); (case side3 => exact qD159); rintro e w7 ⟨v307, rfl, ho0, hb⟩; refine ⟨_, rfl, ?_⟩; have n0_ := Aside0.mk (Kd.R_elder' (mRD15 HO305.out) (Kd.R_base ho0) hb); have n1_ := Aside0.mk (Kd.R_lower (Kd.R_new' ho0 (Kd.R_lt (mRD15 HO305.out))) (below_size qD150)); have n2_ := Aside0.mk (below_step qD150 hb); clear HO305; clear HB; have HO305 := n0_; have HO308 := n1_; have HB := n2_; clear n0_ n1_ n2_; (try clear hb); (try clear hb2); (try clear hk); (try clear hi); (try clear ho0); obtain ⟨Ao8, co8, eo8⟩ := Kd.R_slice HO305.out; subst eo8))
 go_loopg [9, 20] k (fun kq v9 v20 w' => ∃ (x9_1 : Int) (x20_1 : Int), v9 = .int .i64 x9_1 ∧ v20 = .int .i64 x20_1 ∧ Aside0 (rectoref31_Base.l0 kq t306 x9_1 t303 (t303.length : Int) x20_1 = some r) ∧ Aside0 (kq ≤ k) ∧ Aside0 (Kd.R (Kd.int .i64) 3 w' w.heap.size (fun k_ => some k_ ≠ ((.slice Ao8 t303.length co8) : Value).ownBlock) v307 t306) ∧ Aside0 (Kd.R (Kd.int .i64) 3 w' w.heap.size (fun k_ => some k_ ≠ (v307 : Value).ownBlock) (.slice Ao8 t303.length co8) t303) ∧ Aside0 (Below w.heap.size w w'))
 case atStart => exact ⟨(0), (0), qD155, qD155, H', ⟨Nat.le_refl _⟩, ⟨by (with_reducible repeat (first | apply Kd.R_alloc | apply Kd.R_drewN | apply Kd.R_drew)); exact Kd.R_mono HO308.out (fun _ hk => hk.2)⟩, ⟨by (with_reducible repeat (first | apply Kd.R_alloc | apply Kd.R_drewN | apply Kd.R_drew)); exact Kd.R_mono HO305.out (fun _ hk => hk.2)⟩, ⟨qD150⟩⟩
 case round =>
  clear H'; (try clear c1); (try clear c2); (try clear p2); obtain ⟨x9_1, x20_1, rfl, rfl, HA, HK1, HO_8, HO_18, HB⟩ := hrel
  cases gk with
  | zero => exact absurd HA.out (by simp [rectoref31_Base.l0])
  | succ k1 =>
   have H := HA.out; clear HA; simp only [rectoref31_Base.l0] at H
   by_cases c9 : x20_1 < (t303.length : Int)
   · rw [if_pos c9] at H
     have c9b0 : decide (x20_1 < (t303.length : Int)) = true := decide_eq_true c9; clear c9
     by_cases c10 : 0 ≤ x20_1
     · rw [if_pos c10] at H
       have c10b0 : decide (0 ≤ x20_1) = true := decide_eq_true c10; clear c10
       by_cases c11 : x20_1 < (t303.length : Int)
       · rw [if_pos c11] at H
         have c11b0 : decide (x20_1 < (t303.length : Int)) = true := decide_eq_true c11; clear c11; replace H := Option.bind_eq_some_iff.mp H; obtain ⟨t310, A120, H⟩ := H
         replace H : (if t310 = true then (rectoref31_Base.l0 k1 t306 (rd t303 x20_1) t303 (t303.length : Int) (wrap64 (x20_1 + 1))) else (rectoref31_Base.l0 k1 t306 x9_1 t303 (t303.length : Int) (wrap64 (x20_1 + 1)))) = some r := H
         have A12 := Aside0.mk A120; clear A120
         by_cases c13 : t310 = true
         · subst c13
           have H1 : (rectoref31_Base.l0 k1 t306 (rd t303 x20_1) t303 (t303.length : Int) (wrap64 (x20_1 + 1))) = some r := by rw [if_pos rfl] at H; exact H
           clear H; have H := H1; clear H1; have H' := Aside0.mk H; clear H; have p309 : 0 ≤ (x20_1 : Int) := of_decide_eq_true qD158; have q309 : x20_1 < (t303.length : Int) := of_decide_eq_true qD158; obtain ⟨ad309, e309, hx309_0⟩ := Kd.at_int (Kd.R_reads' HO_18.out).2.2 x20_1 p309 q309; cases e309; replace p309 := eq_true p309; replace q309 := eq_true q309; obtain ⟨Ao14, co14, eo14⟩ := Kd.R_slice HO_8.out; subst eo14
           go_wp2_with (first | ((with_reducible refine gate_callee (f := 32) rfl ?_); refine goesL_ (some 26) rfl rfl Tryd.func32 (by kernel_rfl) rfl #[.slice Ao14 t306.length co14, .int .i64 (rd t303 x20_1)] rfl qD151 ?_; (with_reducible refine (rectoref31_has.calls k1 _ _ t306 (rd t303 x20_1) true _ ?side1 ?side2 A12.out ?side3).mono ?_); (case side1 => exact qD154); (case side2 => exact (Kd.R_reads' HO_8.out).2.1); (case side3 => exact qD159); rintro e w' ⟨rfl, ⟨nd, rfl⟩⟩; refine ⟨_, rfl, ?_⟩))
           go_roundg k1
           case measure => have := HK1.out; omega
           case rel => exact ⟨(rd t303 x20_1), (wrap64 (x20_1 + 1)), qD155, qD155, H', ⟨by have := HK1.out; omega⟩, ⟨by (with_reducible repeat (first | apply Kd.R_alloc | apply Kd.R_drewN | apply Kd.R_drew)); exact HO_8.out⟩, ⟨by (with_reducible repeat (first | apply Kd.R_alloc | apply Kd.R_drewN | apply Kd.R_drew)); exact HO_18.out⟩, ⟨qD150⟩⟩
         · replace c13 := Bool.eq_false_iff.mpr c13
           subst c13
           have H1 : (rectoref31_Base.l0 k1 t306 x9_1 t303 (t303.length : Int) (wrap64 (x20_1 + 1))) = some r := by rw [if_neg (show ¬ (false = true) by decide)] at H; exact H
           clear H; have H := H1; clear H1; have H' := Aside0.mk H; clear H; have p309 : 0 ≤ (x20_1 : Int) := of_decide_eq_true qD158; have q309 : x20_1 < (t303.length : Int) := of_decide_eq_true qD158; obtain ⟨ad309, e309, hx309_0⟩ := Kd.at_int (Kd.R_reads' HO_18.out).2.2 x20_1 p309 q309; cases e309; replace p309 := eq_true p309; replace q309 := eq_true q309; obtain ⟨Ao15, co15, eo15⟩ := Kd.R_slice HO_8.out; subst eo15
           go_wp2_with (first | ((with_reducible refine gate_callee (f := 32) rfl ?_); refine goesL_ (some 26) rfl rfl Tryd.func32 (by kernel_rfl) rfl #[.slice Ao15 t306.length co15, .int .i64 (rd t303 x20_1)] rfl qD151 ?_; (with_reducible refine (rectoref31_has.calls k1 _ _ t306 (rd t303 x20_1) false _ ?side1 ?side2 A12.out ?side3).mono ?_); (case side1 => exact qD154); (case side2 => exact (Kd.R_reads' HO_8.out).2.1); (case side3 => exact qD159); rintro e w' ⟨rfl, ⟨nd, rfl⟩⟩; refine ⟨_, rfl, ?_⟩))
           go_roundg k1
           case measure => have := HK1.out; omega
           case rel => exact ⟨(x9_1), (wrap64 (x20_1 + 1)), qD155, qD155, H', ⟨by have := HK1.out; omega⟩, ⟨by (with_reducible repeat (first | apply Kd.R_alloc | apply Kd.R_drewN | apply Kd.R_drew)); exact HO_8.out⟩, ⟨by (with_reducible repeat (first | apply Kd.R_alloc | apply Kd.R_drewN | apply Kd.R_drew)); exact HO_18.out⟩, ⟨qD150⟩⟩
       · rw [if_neg c11] at H
         exact absurd H (by simp)
     · rw [if_neg c10] at H
       exact absurd H (by simp)
   · rw [if_neg c9] at H
     have c9b0 : decide (x20_1 < (t303.length : Int)) = false := decide_eq_false c9; clear c9; obtain rfl := Option.some.inj H
     go_wp2
     go_ret
     exact ⟨qD156, qD150⟩

/-! ### rectolaw31_DagBases: function 4 -/
mutual
def rectolaw31_DagBases.j0 : Nat → List (S43) → Int → Int → List (S48) → List Int → Int → Bool → Bool → Option (Bool)
 | 0, _, _, _, _, _, _, _, _ => none
 | k + 1, x0, x1, x2, x7, x8, x9, x10, x39 => if x39 = true then (if (x8.length : Int) = 0 then (if x10 = true then (some false) else (if x9 = 0 then ((rectolaw31_four.f k).bind fun t322 => (some t322)) else (some false))) else (some false)) else ((rectoref31_Ancestors.f k x7 x1).bind fun t323 => ((rectoplain_Ints.f k x8 t323).bind fun t326 => (if t326 = true then (if x2 < 1 then (rectolaw31_DagBases.j1 k x1 x2 x7 x9 x10 true) else (rectolaw31_DagBases.j1 k x1 x2 x7 x9 x10 (decide (x2 > (x0.length : Int))))) else (some false))))
def rectolaw31_DagBases.j1 : Nat → Int → Int → List (S48) → Int → Bool → Bool → Option (Bool)
 | 0, _, _, _, _, _, _ => none
 | k + 1, x1, x2, x7, x9, x10, x67 => if x67 = true then (if x10 = true then (some false) else (if x9 = 0 then ((rectolaw31_four.f k).bind fun t327 => (some t327)) else (some false))) else ((rectoref31_Base.f k x7 x1 x2).bind fun t328 => (if x9 = t328 then (if (x10 == (decide (t328 > 0))) = true then ((rectolaw31_four.f k).bind fun t329 => (some t329)) else (some false)) else (some false)))
end
def rectolaw31_DagBases.f (k : Nat) (l0 : List (S43)) (a1 : Int) (a2 : Int) : Option (Bool) := (rectolaw31_long.f k l0).bind fun t311 => (if t311 = true then ((rectolaw31_four.f k).bind fun t312 => (some t312)) else ((rectolaw31_ref.f k l0).bind fun t313 => ((dag_Ancestors.f k l0 a1).bind fun t316 => ((dag_Base.f k l0 a1 a2).bind fun bt319 => ((rectoref31_Check.f k t313).bind fun t321 => (if t321 = 0 then (if a1 < 1 then (rectolaw31_DagBases.j0 k l0 a1 a2 t313 t316 bt319.1 bt319.2 true) else (rectolaw31_DagBases.j0 k l0 a1 a2 t313 t316 bt319.1 bt319.2 (decide (a1 > (l0.length : Int))))) else (rectolaw31_DagBases.j0 k l0 a1 a2 t313 t316 bt319.1 bt319.2 true)))))))
theorem rectolaw31_DagBases.mono_l : ∀ k, (∀ y0 y1 y2 y3 y4 y5 y6 y7, LeO (rectolaw31_DagBases.j0 k y0 y1 y2 y3 y4 y5 y6 y7) (rectolaw31_DagBases.j0 (k + 1) y0 y1 y2 y3 y4 y5 y6 y7)) ∧ (∀ y0 y1 y2 y3 y4 y5, LeO (rectolaw31_DagBases.j1 k y0 y1 y2 y3 y4 y5) (rectolaw31_DagBases.j1 (k + 1) y0 y1 y2 y3 y4 y5))
 | 0 => ⟨fun _ _ _ _ _ _ _ _ r h => by simp [rectolaw31_DagBases.j0] at h, fun _ _ _ _ _ _ r h => by simp [rectolaw31_DagBases.j1] at h⟩
 | k + 1 => by
  obtain ⟨ih0, ih1⟩ := rectolaw31_DagBases.mono_l k
  refine ⟨?_, ?_⟩
  · intro y0 y1 y2 y3 y4 y5 y6 y7
    unfold rectolaw31_DagBases.j0
    repeat' first
    | (with_reducible exact ih0 _ _ _ _ _ _ _ _)
    | (with_reducible exact ih1 _ _ _ _ _ _)
    | (with_reducible exact dag_Ancestors.mono _ _ _)
    | (with_reducible exact dag_Base.mono _ _ _ _)
    | (with_reducible exact rectolaw31_four.mono _)
    | (with_reducible exact rectolaw31_long.mono _ _)
    | (with_reducible exact rectolaw31_ref.mono _ _)
    | (with_reducible exact rectoplain_Ints.mono _ _ _)
    | (with_reducible exact rectoref31_Ancestors.mono _ _ _)
    | (with_reducible exact rectoref31_Base.mono _ _ _ _)
    | (with_reducible exact rectoref31_Check.mono _ _)
    | (with_reducible exact LeO.refl _)
    | (with_reducible exact LeO.none _)
    | (with_reducible refine LeO.ite ?_ ?_)
    | (with_reducible refine LeO.bind ?_ (fun _ => ?_))
    | exact ih0 _ _ _ _ _ _ _ _
    | exact ih1 _ _ _ _ _ _
    | exact dag_Ancestors.mono _ _ _
    | exact dag_Base.mono _ _ _ _
    | exact rectolaw31_four.mono _
    | exact rectolaw31_long.mono _ _
    | exact rectolaw31_ref.mono _ _
    | exact rectoplain_Ints.mono _ _ _
    | exact rectoref31_Ancestors.mono _ _ _
    | exact rectoref31_Base.mono _ _ _ _
    | exact rectoref31_Check.mono _ _
    | exact LeO.none _
    | refine LeO.ite ?_ ?_
    | refine LeO.bind ?_ (fun _ => ?_)
  · intro y0 y1 y2 y3 y4 y5
    unfold rectolaw31_DagBases.j1
    repeat' first
    | (with_reducible exact ih0 _ _ _ _ _ _ _ _)
    | (with_reducible exact ih1 _ _ _ _ _ _)
    | (with_reducible exact dag_Ancestors.mono _ _ _)
    | (with_reducible exact dag_Base.mono _ _ _ _)
    | (with_reducible exact rectolaw31_four.mono _)
    | (with_reducible exact rectolaw31_long.mono _ _)
    | (with_reducible exact rectolaw31_ref.mono _ _)
    | (with_reducible exact rectoplain_Ints.mono _ _ _)
    | (with_reducible exact rectoref31_Ancestors.mono _ _ _)
    | (with_reducible exact rectoref31_Base.mono _ _ _ _)
    | (with_reducible exact rectoref31_Check.mono _ _)
    | (with_reducible exact LeO.refl _)
    | (with_reducible exact LeO.none _)
    | (with_reducible refine LeO.ite ?_ ?_)
    | (with_reducible refine LeO.bind ?_ (fun _ => ?_))
    | exact ih0 _ _ _ _ _ _ _ _
    | exact ih1 _ _ _ _ _ _
    | exact dag_Ancestors.mono _ _ _
    | exact dag_Base.mono _ _ _ _
    | exact rectolaw31_four.mono _
    | exact rectolaw31_long.mono _ _
    | exact rectolaw31_ref.mono _ _
    | exact rectoplain_Ints.mono _ _ _
    | exact rectoref31_Ancestors.mono _ _ _
    | exact rectoref31_Base.mono _ _ _ _
    | exact rectoref31_Check.mono _ _
    | exact LeO.none _
    | refine LeO.ite ?_ ?_
    | refine LeO.bind ?_ (fun _ => ?_)
theorem rectolaw31_DagBases.mono : ∀ a0 a1 a2 k, LeO (rectolaw31_DagBases.f k a0 a1 a2) (rectolaw31_DagBases.f (k + 1) a0 a1 a2) := by
 intro a0 a1 a2 k
 obtain ⟨ih0, ih1⟩ := rectolaw31_DagBases.mono_l k; unfold rectolaw31_DagBases.f
 repeat' first
  | (with_reducible exact ih0 _ _ _ _ _ _ _ _)
  | (with_reducible exact ih1 _ _ _ _ _ _)
  | (with_reducible exact dag_Ancestors.mono _ _ _)
  | (with_reducible exact dag_Base.mono _ _ _ _)
  | (with_reducible exact rectolaw31_four.mono _)
  | (with_reducible exact rectolaw31_long.mono _ _)
  | (with_reducible exact rectolaw31_ref.mono _ _)
  | (with_reducible exact rectoplain_Ints.mono _ _ _)
  | (with_reducible exact rectoref31_Ancestors.mono _ _ _)
  | (with_reducible exact rectoref31_Base.mono _ _ _ _)
  | (with_reducible exact rectoref31_Check.mono _ _)
  | (with_reducible exact LeO.refl _)
  | (with_reducible exact LeO.none _)
  | (with_reducible refine LeO.ite ?_ ?_)
  | (with_reducible refine LeO.bind ?_ (fun _ => ?_))
  | exact ih0 _ _ _ _ _ _ _ _
  | exact ih1 _ _ _ _ _ _
  | exact dag_Ancestors.mono _ _ _
  | exact dag_Base.mono _ _ _ _
  | exact rectolaw31_four.mono _
  | exact rectolaw31_long.mono _ _
  | exact rectolaw31_ref.mono _ _
  | exact rectoplain_Ints.mono _ _ _
  | exact rectoref31_Ancestors.mono _ _ _
  | exact rectoref31_Base.mono _ _ _ _
  | exact rectoref31_Check.mono _ _
  | exact LeO.none _
  | refine LeO.ite ?_ ?_
  | refine LeO.bind ?_ (fun _ => ?_)
set_option maxHeartbeats 8000000 in
set_option maxRecDepth 100000 in
theorem rectolaw31_DagBases.calls_true (k : Nat) (A0 : Option Addr) (c0 : Nat) (l0 : List (S43)) (a1 : Int) (a2 : Int) (r : Bool) (w : World) (hr0 : Kd.C k43 w A0 l0.length l0) (hc0 : l0.length ≤ c0) (h : rectolaw31_DagBases.f k l0 a1 a2 = some r) (HG : Aside0 (Laid w)) (hr_ : Aside0 (r = true)) :
 Calls Tryd.prog 4 #[.slice A0 l0.length c0, .int .i64 a1, .int .i64 a2] w fun e w' => e = .returned (.bool r) ∧ Below w.heap.size w w' := by
 have HR0 := Aside0.mk hr0; have HC0 := Aside0.mk hc0; clear hr0 hc0; have HB := Aside0.mk (Below.refl w.heap.size w)
 have H : ((rectolaw31_long.f k l0).bind fun t311 => (if t311 = true then ((rectolaw31_four.f k).bind fun t312 => (some t312)) else ((rectolaw31_ref.f k l0).bind fun t313 => ((dag_Ancestors.f k l0 a1).bind fun t316 => ((dag_Base.f k l0 a1 a2).bind fun bt319 => ((rectoref31_Check.f k t313).bind fun t321 => (if t321 = 0 then (if a1 < 1 then (rectolaw31_DagBases.j0 k l0 a1 a2 t313 t316 bt319.1 bt319.2 true) else (rectolaw31_DagBases.j0 k l0 a1 a2 t313 t316 bt319.1 bt319.2 (decide (a1 > (l0.length : Int))))) else (rectolaw31_DagBases.j0 k l0 a1 a2 t313 t316 bt319.1 bt319.2 true)))))))) = some r := h
 clear h; replace H := Option.bind_eq_some_iff.mp H; obtain ⟨t311, A40, H⟩ := H
 replace H : (if t311 = true then ((rectolaw31_four.f k).bind fun t312 => (some t312)) else ((rectolaw31_ref.f k l0).bind fun t313 => ((dag_Ancestors.f k l0 a1).bind fun t316 => ((dag_Base.f k l0 a1 a2).bind fun bt319 => ((rectoref31_Check.f k t313).bind fun t321 => (if t321 = 0 then (if a1 < 1 then (rectolaw31_DagBases.j0 k l0 a1 a2 t313 t316 bt319.1 bt319.2 true) else (rectolaw31_DagBases.j0 k l0 a1 a2 t313 t316 bt319.1 bt319.2 (decide (a1 > (l0.length : Int))))) else (rectolaw31_DagBases.j0 k l0 a1 a2 t313 t316 bt319.1 bt319.2 true))))))) = some r := H
 have A4 := Aside0.mk A40; clear A40
 by_cases c5 : t311 = true
 · subst c5
   have H1 : ((rectolaw31_four.f k).bind fun t312 => (some t312)) = some r := by rw [if_pos rfl] at H; exact H
   clear H; have H := H1; clear H1; replace H := Option.bind_eq_some_iff.mp H; obtain ⟨t312, A60, H⟩ := H; replace H : (some t312) = some r := H; have A6 := Aside0.mk A60; clear A60; obtain rfl := Option.some.inj H
   go_enter Tryd.func4, Tryd.ntmps4
   go_wp2_with (first | ((with_reducible refine gate_callee (f := 7) rfl ?_); refine goesL_ (some 13) rfl rfl Tryd.func7 (by kernel_rfl) rfl #[.slice A0 l0.length c0] rfl qD151 ?_; (with_reducible refine (rectolaw31_long.calls k _ _ l0 true _ ?side1 ?side2 A4.out ?side3).mono ?_); (case side1 => exact mCD15 HR0.out); (case side2 => exact HC0.out); (case side3 => exact qD159); rintro e w7 ⟨rfl, hb⟩; refine ⟨_, rfl, ?_⟩; have n0_ := Aside0.mk (below_step qD150 hb); clear HB; have HB := n0_; clear n0_; (try clear hb); (try clear hb2); (try clear hk); (try clear hi)) | ((with_reducible refine gate_callee (f := 8) rfl ?_); refine goesL_ (some 14) rfl rfl Tryd.func8 (by kernel_rfl) rfl #[] rfl qD151 ?_; (with_reducible refine (rectolaw31_four.calls k  t312 _ A6.out ?side1).mono ?_); (case side1 => exact qD159); rintro e w8 ⟨rfl, hb⟩; refine ⟨_, rfl, ?_⟩; have n0_ := Aside0.mk (below_step qD150 hb); clear HB; have HB := n0_; clear n0_; (try clear hb); (try clear hb2); (try clear hk); (try clear hi)))
   go_ret
   exact ⟨qD156, qD150⟩
 · replace c5 := Bool.eq_false_iff.mpr c5
   subst c5
   have H1 : ((rectolaw31_ref.f k l0).bind fun t313 => ((dag_Ancestors.f k l0 a1).bind fun t316 => ((dag_Base.f k l0 a1 a2).bind fun bt319 => ((rectoref31_Check.f k t313).bind fun t321 => (if t321 = 0 then (if a1 < 1 then (rectolaw31_DagBases.j0 k l0 a1 a2 t313 t316 bt319.1 bt319.2 true) else (rectolaw31_DagBases.j0 k l0 a1 a2 t313 t316 bt319.1 bt319.2 (decide (a1 > (l0.length : Int))))) else (rectolaw31_DagBases.j0 k l0 a1 a2 t313 t316 bt319.1 bt319.2 true)))))) = some r := by rw [if_neg (show ¬ (false = true) by decide)] at H; exact H
   clear H; have H := H1; clear H1; replace H := Option.bind_eq_some_iff.mp H; obtain ⟨t313, A90, H⟩ := H
   replace H : ((dag_Ancestors.f k l0 a1).bind fun t316 => ((dag_Base.f k l0 a1 a2).bind fun bt319 => ((rectoref31_Check.f k t313).bind fun t321 => (if t321 = 0 then (if a1 < 1 then (rectolaw31_DagBases.j0 k l0 a1 a2 t313 t316 bt319.1 bt319.2 true) else (rectolaw31_DagBases.j0 k l0 a1 a2 t313 t316 bt319.1 bt319.2 (decide (a1 > (l0.length : Int))))) else (rectolaw31_DagBases.j0 k l0 a1 a2 t313 t316 bt319.1 bt319.2 true))))) = some r := H
   have A9 := Aside0.mk A90; clear A90; replace H := Option.bind_eq_some_iff.mp H; obtain ⟨t316, A100, H⟩ := H
   replace H : ((dag_Base.f k l0 a1 a2).bind fun bt319 => ((rectoref31_Check.f k t313).bind fun t321 => (if t321 = 0 then (if a1 < 1 then (rectolaw31_DagBases.j0 k l0 a1 a2 t313 t316 bt319.1 bt319.2 true) else (rectolaw31_DagBases.j0 k l0 a1 a2 t313 t316 bt319.1 bt319.2 (decide (a1 > (l0.length : Int))))) else (rectolaw31_DagBases.j0 k l0 a1 a2 t313 t316 bt319.1 bt319.2 true)))) = some r := H
   have A10 := Aside0.mk A100; clear A100; replace H := Option.bind_eq_some_iff.mp H; obtain ⟨⟨t319, t320⟩, A110, H⟩ := H
   replace H : ((rectoref31_Check.f k t313).bind fun t321 => (if t321 = 0 then (if a1 < 1 then (rectolaw31_DagBases.j0 k l0 a1 a2 t313 t316 t319 t320 true) else (rectolaw31_DagBases.j0 k l0 a1 a2 t313 t316 t319 t320 (decide (a1 > (l0.length : Int))))) else (rectolaw31_DagBases.j0 k l0 a1 a2 t313 t316 t319 t320 true))) = some r := H
   have A11 := Aside0.mk A110; clear A110; have HC12 := Aside0.mk H; clear H
   go_enter Tryd.func4, Tryd.ntmps4
   go_upto_region 6 with (first | ((with_reducible refine gate_callee (f := 7) rfl ?_); refine goesL_ (some 13) rfl rfl Tryd.func7 (by kernel_rfl) rfl #[.slice A0 l0.length c0] rfl qD151 ?_; (with_reducible refine (rectolaw31_long.calls k _ _ l0 false _ ?side1 ?side2 A4.out ?side3).mono ?_); (case side1 => exact mCD15 HR0.out); (case side2 => exact HC0.out); (case side3 => exact qD159); rintro e w13 ⟨rfl, hb⟩; refine ⟨_, rfl, ?_⟩; have n0_ := Aside0.mk (below_step qD150 hb); clear HB; have HB := n0_; clear n0_; (try clear hb); (try clear hb2); (try clear hk); (try clear hi)) | ((with_reducible refine gate_callee (f := 9) rfl ?_); refine goesL_ (some 16) rfl rfl Tryd.func9 (by kernel_rfl) rfl #[.slice A0 l0.length c0] rfl qD151 ?_; (with_reducible refine (rectolaw31_ref.calls k (fun k_ => k_ < w.heap.size) _ _ l0 t313 _ ?side1 A9.out ?side2).mono ?_); (case side1 => exact Kd.V_mk HC0.out (Kd.F_below (Kd.C_F k43_heap HR0.out) qD150)); (case side2 => exact qD159); rintro e w14 ⟨v314, rfl, ho0, hb⟩; refine ⟨_, rfl, ?_⟩; have n0_ := Aside0.mk (Kd.N_lower (Kd.N_mono (ok' := fun k_ => True) ho0 (fun k_ hk_ => trivial)) (below_size qD150)); have n1_ := Aside0.mk (below_step qD150 hb); clear HB; have HO315 := n0_; have HB := n1_; clear n0_ n1_; (try clear hb); (try clear hb2); (try clear hk); (try clear hi); (try clear ho0)) | ((with_reducible refine gate_callee (f := 17) rfl ?_); refine goesL_ (some 19) rfl rfl Tryd.func17 (by kernel_rfl) rfl #[.slice A0 l0.length c0, .int .i64 a1] rfl qD151 ?_; (with_reducible refine (dag_Ancestors.calls k _ _ l0 a1 t316 _ ?side1 ?side2 A10.out ?side3).mono ?_); (case side1 => exact qD152); (case side2 => exact HC0.out); (case side3 => exact qD159); rintro e w15 ⟨v317, rfl, ho0, hb⟩; refine ⟨_, rfl, ?_⟩; have n0_ := Aside0.mk (Kd.N_elder' (mND15 HO315.out) (Kd.R_base ho0) hb); have n1_ := Aside0.mk (Kd.R_lower ho0 (below_size qD150)); have n2_ := Aside0.mk (below_step qD150 hb); clear HO315; clear HB; have HO315 := n0_; have HO318 := n1_; have HB := n2_; clear n0_ n1_ n2_; (try clear hb); (try clear hb2); (try clear hk); (try clear hi); (try clear ho0)) | ((with_reducible refine gate_callee (f := 18) rfl ?_); refine goesL_ (some 24) rfl rfl Tryd.func18 (by kernel_rfl) rfl #[.slice A0 l0.length c0, .int .i64 a1, .int .i64 a2] rfl qD151 ?_; (with_reducible refine (dag_Base.calls k _ _ l0 a1 a2 t319 t320 _ ?side1 ?side2 A11.out ?side3).mono ?_); (case side1 => exact qD152); (case side2 => exact HC0.out); (case side3 => exact qD159); rintro e w16 ⟨rfl, hb⟩; refine ⟨_, rfl, ?_⟩; have n0_ := Aside0.mk (Kd.N_below (mND15 HO315.out) hb); have n1_ := Aside0.mk (Kd.R_below (mRD15 HO318.out) hb); have n2_ := Aside0.mk (below_step qD150 hb); clear HO315; clear HO318; clear HB; have HO315 := n0_; have HO318 := n1_; have HB := n2_; clear n0_ n1_ n2_; (try clear hb); (try clear hb2); (try clear hk); (try clear hi)))
   (try simp only [Act.put, List.setIfInBounds_toArray, List.set_cons_zero, List.set_cons_succ])
   go_cut [39] (fun v39 wc => ∃ (kq : Nat) (x39_11 : Bool), v39 = .bool x39_11 ∧ Aside0 (rectolaw31_DagBases.j0 kq l0 a1 a2 t313 t316 t319 t320 x39_11 = some r) ∧ Aside0 (kq ≤ k) ∧ Aside0 (Kd.N k48 48 wc w.heap.size (fun k_ => some k_ ≠ (v317 : Value).ownBlock) v314 t313) ∧ Aside0 (Kd.R (Kd.int .i64) 3 wc w.heap.size (fun _ => True) v317 t316) ∧ Aside0 (Below w.heap.size w wc))
   case first =>
    have H := HC12.out; clear HC12; replace H := Option.bind_eq_some_iff.mp H; obtain ⟨t321, A170, H⟩ := H
    replace H : (if t321 = 0 then (if a1 < 1 then (rectolaw31_DagBases.j0 k l0 a1 a2 t313 t316 t319 t320 true) else (rectolaw31_DagBases.j0 k l0 a1 a2 t313 t316 t319 t320 (decide (a1 > (l0.length : Int))))) else (rectolaw31_DagBases.j0 k l0 a1 a2 t313 t316 t319 t320 true)) = some r := H
    have A17 := Aside0.mk A170; clear A170
    by_cases c18 : t321 = 0
    · rw [if_pos c18] at H
      have c18b0 : (t321 == 0) = true := beq_iff_eq.mpr c18; have c18b1 : (t321 != 0) = false := bne_eq_false_iff_eq.mpr c18; clear c18
      (first | rw [c18b0] | (simp only [i64_w, i32_w]; rw [c18b0]) | skip)
      by_cases c19 : a1 < 1
      · rw [if_pos c19] at H
        have c19b0 : decide (a1 < 1) = true := decide_eq_true c19; clear c19; have H' := Aside0.mk H; clear H; obtain ⟨Ao20, co20, eo20⟩ := Kd.N_slice HO315.out; subst eo20
        go_wp2_with (first | ((with_reducible refine gate_callee (f := 13) rfl ?_); refine goesL_ (some 28) rfl rfl Tryd.func13 (by kernel_rfl) rfl #[.slice Ao20 t313.length co20] rfl qD151 ?_; (with_reducible refine (rectoref31_Check.calls k _ _ t313 t321 _ ?side1 ?side2 A17.out ?side3).mono ?_); (case side1 => exact qD153); (case side2 => exact (Kd.N_reads' HO315.out).2.1); (case side3 => exact qD159); rintro e w21 ⟨rfl, hb⟩; refine ⟨_, rfl, ?_⟩; have n0_ := Aside0.mk (Kd.N_below (mND15 HO315.out) hb); have n1_ := Aside0.mk (Kd.R_below (mRD15 HO318.out) hb); have n2_ := Aside0.mk (below_step qD150 hb); clear HO315; clear HO318; clear HB; have HO315 := n0_; have HO318 := n1_; have HB := n2_; clear n0_ n1_ n2_; (try clear hb); (try clear hb2); (try clear hk); (try clear hi)))
        go_meet
        case rel => exact ⟨_, (true), qD155, H', ⟨by first | omega | exact Nat.le_refl _⟩, ⟨by (with_reducible repeat (first | apply Kd.N_alloc | apply Kd.N_drewN | apply Kd.N_drew)); exact Kd.N_mono HO315.out (fun _ hk => hk.2)⟩, ⟨by (with_reducible repeat (first | apply Kd.R_alloc | apply Kd.R_drewN | apply Kd.R_drew)); exact HO318.out⟩, ⟨qD150⟩⟩
      · rw [if_neg c19] at H
        have c19b0 : decide (a1 < 1) = false := decide_eq_false c19; clear c19; have H' := Aside0.mk H; clear H; obtain ⟨Ao22, co22, eo22⟩ := Kd.N_slice HO315.out; subst eo22
        go_wp2_with (first | ((with_reducible refine gate_callee (f := 13) rfl ?_); refine goesL_ (some 28) rfl rfl Tryd.func13 (by kernel_rfl) rfl #[.slice Ao22 t313.length co22] rfl qD151 ?_; (with_reducible refine (rectoref31_Check.calls k _ _ t313 t321 _ ?side1 ?side2 A17.out ?side3).mono ?_); (case side1 => exact qD153); (case side2 => exact (Kd.N_reads' HO315.out).2.1); (case side3 => exact qD159); rintro e w23 ⟨rfl, hb⟩; refine ⟨_, rfl, ?_⟩; have n0_ := Aside0.mk (Kd.N_below (mND15 HO315.out) hb); have n1_ := Aside0.mk (Kd.R_below (mRD15 HO318.out) hb); have n2_ := Aside0.mk (below_step qD150 hb); clear HO315; clear HO318; clear HB; have HO315 := n0_; have HO318 := n1_; have HB := n2_; clear n0_ n1_ n2_; (try clear hb); (try clear hb2); (try clear hk); (try clear hi)))
        go_meet
        case rel => exact ⟨_, (decide (a1 > (l0.length : Int))), qD155, H', ⟨by first | omega | exact Nat.le_refl _⟩, ⟨by (with_reducible repeat (first | apply Kd.N_alloc | apply Kd.N_drewN | apply Kd.N_drew)); exact Kd.N_mono HO315.out (fun _ hk => hk.2)⟩, ⟨by (with_reducible repeat (first | apply Kd.R_alloc | apply Kd.R_drewN | apply Kd.R_drew)); exact HO318.out⟩, ⟨qD150⟩⟩
    · rw [if_neg c18] at H
      have c18b0 : (t321 == 0) = false := beq_eq_false_iff_ne.mpr c18; have c18b1 : (t321 != 0) = true := bne_iff_ne.mpr c18
      (first | rw [c18b0] | (simp only [i64_w, i32_w]; rw [c18b0]) | skip)
      have H' := Aside0.mk H; clear H; obtain ⟨Ao24, co24, eo24⟩ := Kd.N_slice HO315.out; subst eo24
      go_wp2_with (first | ((with_reducible refine gate_callee (f := 13) rfl ?_); refine goesL_ (some 28) rfl rfl Tryd.func13 (by kernel_rfl) rfl #[.slice Ao24 t313.length co24] rfl qD151 ?_; (with_reducible refine (rectoref31_Check.calls k _ _ t313 t321 _ ?side1 ?side2 A17.out ?side3).mono ?_); (case side1 => exact qD153); (case side2 => exact (Kd.N_reads' HO315.out).2.1); (case side3 => exact qD159); rintro e w25 ⟨rfl, hb⟩; refine ⟨_, rfl, ?_⟩; have n0_ := Aside0.mk (Kd.N_below (mND15 HO315.out) hb); have n1_ := Aside0.mk (Kd.R_below (mRD15 HO318.out) hb); have n2_ := Aside0.mk (below_step qD150 hb); clear HO315; clear HO318; clear HB; have HO315 := n0_; have HO318 := n1_; have HB := n2_; clear n0_ n1_ n2_; (try clear hb); (try clear hb2); (try clear hk); (try clear hi)))
      go_meet
      case rel => exact ⟨_, (true), qD155, H', ⟨by first | omega | exact Nat.le_refl _⟩, ⟨by (with_reducible repeat (first | apply Kd.N_alloc | apply Kd.N_drewN | apply Kd.N_drew)); exact Kd.N_mono HO315.out (fun _ hk => hk.2)⟩, ⟨by (with_reducible repeat (first | apply Kd.R_alloc | apply Kd.R_drewN | apply Kd.R_drew)); exact HO318.out⟩, ⟨qD150⟩⟩
   case rest =>
    clear HC12; (try clear c1); (try clear p2); (try clear c4); (try clear c5); (try clear c7); (try clear c8); (try clear c9); (try clear c13); (try clear c17); (try clear c18); (try clear c18b0); (try clear c18b1); (try clear c19); (try clear c19b0); obtain ⟨kq, x39_11, rfl, HA, HJ11, HO_7, HO_8, HB⟩ := hcut
    cases kq with
    | zero => exact absurd HA.out (by simp [rectolaw31_DagBases.j0])
    | succ kj11 =>
     have H := HA.out; clear HA; simp only [rectolaw31_DagBases.j0] at H
     by_cases c26 : x39_11 = true
     · subst c26
       have H1 : (if (t316.length : Int) = 0 then (if t320 = true then (some false) else (if t319 = 0 then ((rectolaw31_four.f kj11).bind fun t322 => (some t322)) else (some false))) else (some false)) = some r := by rw [if_pos rfl] at H; exact H
       clear H; have H := H1; clear H1
       by_cases c27 : (t316.length : Int) = 0
       · rw [if_pos c27] at H
         have c27b0 : ((t316.length : Int) == 0) = true := beq_iff_eq.mpr c27; have c27b1 : ((t316.length : Int) != 0) = false := bne_eq_false_iff_eq.mpr c27; clear c27
         by_cases c28 : t320 = true
         · subst c28
           have H1 : (some false) = some r := by rw [if_pos rfl] at H; exact H
           clear H; have H := H1; clear H1
           exact absurd ((Option.some.inj H).trans hr_.out) (by decide)
         · replace c28 := Bool.eq_false_iff.mpr c28
           subst c28
           have H1 : (if t319 = 0 then ((rectolaw31_four.f kj11).bind fun t322 => (some t322)) else (some false)) = some r := by rw [if_neg (show ¬ (false = true) by decide)] at H; exact H
           clear H; have H := H1; clear H1
           by_cases c30 : t319 = 0
           · rw [if_pos c30] at H
             have c30b0 : (t319 == 0) = true := beq_iff_eq.mpr c30; have c30b1 : (t319 != 0) = false := bne_eq_false_iff_eq.mpr c30; clear c30; replace H := Option.bind_eq_some_iff.mp H; obtain ⟨t322, A310, H⟩ := H; replace H : (some t322) = some r := H; have A31 := Aside0.mk A310; clear A310; obtain rfl := Option.some.inj H; obtain ⟨Ao32, co32, eo32⟩ := Kd.R_slice HO_8.out; subst eo32
             go_wp2_with (first | (go_at_call 8; (with_reducible refine (rectolaw31_four.calls kj11  t322 _ A31.out ?side1).mono ?_); (case side1 => exact qD159); rintro e w33 ⟨rfl, hb⟩; have n0_ := Aside0.mk (Kd.N_below (mND15 HO_7.out) hb); have n1_ := Aside0.mk (Kd.R_below (mRD15 HO_8.out) hb); have n2_ := Aside0.mk (below_step qD150 hb); clear HO_7; clear HO_8; clear HB; have HO_7 := n0_; have HO_8 := n1_; have HB := n2_; clear n0_ n1_ n2_; (try clear hb); (try clear hb2); (try clear hk); (try clear hi)))
             go_ret
             exact ⟨qD156, qD150⟩
           · rw [if_neg c30] at H
             have c30b0 : (t319 == 0) = false := beq_eq_false_iff_ne.mpr c30; have c30b1 : (t319 != 0) = true := bne_iff_ne.mpr c30
             exact absurd ((Option.some.inj H).trans hr_.out) (by decide)
       · rw [if_neg c27] at H
         have c27b0 : ((t316.length : Int) == 0) = false := beq_eq_false_iff_ne.mpr c27; have c27b1 : ((t316.length : Int) != 0) = true := bne_iff_ne.mpr c27
         have c27b2 : ¬ (t316 = []) := fun h_ => c27 (by rw [h_]; rfl)
         exact absurd ((Option.some.inj H).trans hr_.out) (by decide)
     · replace c26 := Bool.eq_false_iff.mpr c26
       subst c26
       have H1 : ((rectoref31_Ancestors.f kj11 t313 a1).bind fun t323 => ((rectoplain_Ints.f kj11 t316 t323).bind fun t326 => (if t326 = true then (if a2 < 1 then (rectolaw31_DagBases.j1 kj11 a1 a2 t313 t319 t320 true) else (rectolaw31_DagBases.j1 kj11 a1 a2 t313 t319 t320 (decide (a2 > (l0.length : Int))))) else (some false)))) = some r := by rw [if_neg (show ¬ (false = true) by decide)] at H; exact H
       clear H; have H := H1; clear H1; replace H := Option.bind_eq_some_iff.mp H; obtain ⟨t323, A360, H⟩ := H
       replace H : ((rectoplain_Ints.f kj11 t316 t323).bind fun t326 => (if t326 = true then (if a2 < 1 then (rectolaw31_DagBases.j1 kj11 a1 a2 t313 t319 t320 true) else (rectolaw31_DagBases.j1 kj11 a1 a2 t313 t319 t320 (decide (a2 > (l0.length : Int))))) else (some false))) = some r := H
       have A36 := Aside0.mk A360; clear A360; replace H := Option.bind_eq_some_iff.mp H; obtain ⟨t326, A370, H⟩ := H
       replace H : (if t326 = true then (if a2 < 1 then (rectolaw31_DagBases.j1 kj11 a1 a2 t313 t319 t320 true) else (rectolaw31_DagBases.j1 kj11 a1 a2 t313 t319 t320 (decide (a2 > (l0.length : Int))))) else (some false)) = some r := H
       have A37 := Aside0.mk A370; clear A370
       by_cases c38 : t326 = true
       · subst c38
         have H1 : (if a2 < 1 then (rectolaw31_DagBases.j1 kj11 a1 a2 t313 t319 t320 true) else (rectolaw31_DagBases.j1 kj11 a1 a2 t313 t319 t320 (decide (a2 > (l0.length : Int))))) = some r := by rw [if_pos rfl] at H; exact H
         clear H; have H := H1; clear H1; have HC39 := Aside0.mk H; clear H; obtain ⟨Ao40, co40, eo40⟩ := Kd.N_slice HO_7.out; subst eo40
         go_upto_region 10 with (first | ((with_reducible refine gate_callee (f := 19) rfl ?_); refine goesL_ (some 57) rfl rfl Tryd.func19 (by kernel_rfl) rfl #[.slice Ao40 t313.length co40, .int .i64 a1] rfl qD151 ?_; (with_reducible refine (rectoref31_Ancestors.calls kj11 _ _ t313 a1 t323 _ ?side1 ?side2 A36.out ?side3).mono ?_); (case side1 => exact qD157); (case side2 => exact (Kd.N_reads' HO_7.out).2.1); (case side3 => exact qD159); rintro e w41 ⟨v324, rfl, ho0, hb⟩; refine ⟨_, rfl, ?_⟩; have n0_ := Aside0.mk (Kd.N_elder' (mND15 HO_7.out) (Kd.R_base ho0) hb); have n1_ := Aside0.mk (Kd.R_elder' (mRD15 HO_8.out) (Kd.R_base ho0) hb); have n2_ := Aside0.mk (Kd.R_lower (Kd.R_new' ho0 (Kd.R_lt (mRD15 HO_8.out))) (below_size qD150)); have n3_ := Aside0.mk (below_step qD150 hb); clear HO_7; clear HO_8; clear HB; have HO_7 := n0_; have HO_8 := n1_; have HO325 := n2_; have HB := n3_; clear n0_ n1_ n2_ n3_; (try clear hb); (try clear hb2); (try clear hk); (try clear hi); (try clear ho0); obtain ⟨Ao42, co42, eo42⟩ := Kd.R_slice HO_8.out; subst eo42; obtain ⟨Ao43, co43, eo43⟩ := Kd.R_slice HO325.out; subst eo43) | ((with_reducible refine gate_callee (f := 15) rfl ?_); refine goesL_ (some 58) rfl rfl Tryd.func15 (by kernel_rfl) rfl #[.slice Ao42 t316.length co42, .slice Ao43 t323.length co43] rfl qD151 ?_; (with_reducible refine (rectoplain_Ints.calls kj11 _ _ t316 _ _ t323 true _ ?side1 ?side2 ?side3 ?side4 A37.out ?side5).mono ?_); (case side1 => exact qD154); (case side2 => exact (Kd.R_reads' HO_8.out).2.1); (case side3 => repeat (first | exact (Kd.R_reads' HO325.out).2.2 | (with_reducible refine Kd.C_alloc ?_ _) | (with_reducible refine Kd.C_drewN ?_ _) | (with_reducible refine Kd.C_drew ?_))); (case side4 => exact (Kd.R_reads' HO325.out).2.1); (case side5 => exact qD159); rintro e w' ⟨rfl, ⟨nd, rfl⟩⟩; refine ⟨_, rfl, ?_⟩))
         (try simp only [Act.put, List.setIfInBounds_toArray, List.set_cons_zero, List.set_cons_succ])
         go_cut [67] (fun v67 wc => ∃ (kq : Nat) (x67_38 : Bool), v67 = .bool x67_38 ∧ Aside0 (rectolaw31_DagBases.j1 kq a1 a2 t313 t319 t320 x67_38 = some r) ∧ Aside0 (kq ≤ kj11) ∧ Aside0 (Kd.N k48 48 wc w.heap.size (fun _ => True) (.slice Ao40 t313.length co40) t313) ∧ Aside0 (Below w.heap.size w wc))
         case first =>
          have H := HC39.out; clear HC39
          by_cases c44 : a2 < 1
          · rw [if_pos c44] at H
            have c44b0 : decide (a2 < 1) = true := decide_eq_true c44; clear c44
            (first | rw [c44b0] | (simp only [i64_w, i32_w]; rw [c44b0]) | skip)
            have H' := Aside0.mk H; clear H
            go_wp2
            go_meet
            case rel => exact ⟨_, (true), qD155, H', ⟨by have := HJ11.out; first | omega | exact Nat.le_refl _⟩, ⟨by (with_reducible repeat (first | apply Kd.N_alloc | apply Kd.N_drewN | apply Kd.N_drew)); exact Kd.N_mono HO_7.out (fun _ hk => trivial)⟩, ⟨qD150⟩⟩
          · rw [if_neg c44] at H
            have c44b0 : decide (a2 < 1) = false := decide_eq_false c44; clear c44
            (first | rw [c44b0] | (simp only [i64_w, i32_w]; rw [c44b0]) | skip)
            have H' := Aside0.mk H; clear H
            go_wp2
            go_meet
            case rel => exact ⟨_, (decide (a2 > (l0.length : Int))), qD155, H', ⟨by have := HJ11.out; first | omega | exact Nat.le_refl _⟩, ⟨by (with_reducible repeat (first | apply Kd.N_alloc | apply Kd.N_drewN | apply Kd.N_drew)); exact Kd.N_mono HO_7.out (fun _ hk => trivial)⟩, ⟨qD150⟩⟩
         case rest =>
          clear HC39; (try clear c1); (try clear c2); (try clear p2); (try clear c3); (try clear c4); (try clear c5); (try clear c7); (try clear c8); (try clear c9); (try clear c13); (try clear c15); (try clear c17); (try clear c18); (try clear c18b0); (try clear c18b1); (try clear c19); (try clear c19b0); (try clear c26); (try clear c27); (try clear c27b0); (try clear c27b1); (try clear c27b2); (try clear c28); (try clear c30); (try clear c30b0); (try clear c30b1); (try clear c38); (try clear c44); (try clear c44b0); (try clear p2); obtain ⟨kq, x67_38, rfl, HA, HJ38, HO_7, HB⟩ := hcut
          cases kq with
          | zero => exact absurd HA.out (by simp [rectolaw31_DagBases.j1])
          | succ kj38 =>
           have H := HA.out; clear HA; simp only [rectolaw31_DagBases.j1] at H
           by_cases c45 : x67_38 = true
           · subst c45
             have H1 : (if t320 = true then (some false) else (if t319 = 0 then ((rectolaw31_four.f kj38).bind fun t327 => (some t327)) else (some false))) = some r := by rw [if_pos rfl] at H; exact H
             clear H; have H := H1; clear H1
             by_cases c46 : t320 = true
             · subst c46
               have H1 : (some false) = some r := by rw [if_pos rfl] at H; exact H
               clear H; have H := H1; clear H1
               exact absurd ((Option.some.inj H).trans hr_.out) (by decide)
             · replace c46 := Bool.eq_false_iff.mpr c46
               subst c46
               have H1 : (if t319 = 0 then ((rectolaw31_four.f kj38).bind fun t327 => (some t327)) else (some false)) = some r := by rw [if_neg (show ¬ (false = true) by decide)] at H; exact H
               clear H; have H := H1; clear H1
               by_cases c47 : t319 = 0
               · rw [if_pos c47] at H
                 have c47b0 : (t319 == 0) = true := beq_iff_eq.mpr c47; have c47b1 : (t319 != 0) = false := bne_eq_false_iff_eq.mpr c47; clear c47; replace H := Option.bind_eq_some_iff.mp H; obtain ⟨t327, A480, H⟩ := H; replace H : (some t327) = some r := H; have A48 := Aside0.mk A480; clear A480; obtain rfl := Option.some.inj H
                 go_wp2_with (first | (go_at_call 8; (with_reducible refine (rectolaw31_four.calls kj38  t327 _ A48.out ?side1).mono ?_); (case side1 => exact qD159); rintro e w49 ⟨rfl, hb⟩; have n0_ := Aside0.mk (Kd.N_below (mND15 HO_7.out) hb); have n1_ := Aside0.mk (below_step qD150 hb); clear HO_7; clear HB; have HO_7 := n0_; have HB := n1_; clear n0_ n1_; (try clear hb); (try clear hb2); (try clear hk); (try clear hi)))
                 go_ret
                 exact ⟨qD156, qD150⟩
               · rw [if_neg c47] at H
                 have c47b0 : (t319 == 0) = false := beq_eq_false_iff_ne.mpr c47; have c47b1 : (t319 != 0) = true := bne_iff_ne.mpr c47
                 exact absurd ((Option.some.inj H).trans hr_.out) (by decide)
           · replace c45 := Bool.eq_false_iff.mpr c45
             subst c45
             have H1 : ((rectoref31_Base.f kj38 t313 a1 a2).bind fun t328 => (if t319 = t328 then (if (t320 == (decide (t328 > 0))) = true then ((rectolaw31_four.f kj38).bind fun t329 => (some t329)) else (some false)) else (some false))) = some r := by rw [if_neg (show ¬ (false = true) by decide)] at H; exact H
             clear H; have H := H1; clear H1; replace H := Option.bind_eq_some_iff.mp H; obtain ⟨t328, A500, H⟩ := H
             replace H : (if t319 = t328 then (if (t320 == (decide (t328 > 0))) = true then ((rectolaw31_four.f kj38).bind fun t329 => (some t329)) else (some false)) else (some false)) = some r := H
             have A50 := Aside0.mk A500; clear A500
             by_cases c51 : t319 = t328
             · rw [if_pos c51] at H
               have c51b0 : (t319 == t328) = true := beq_iff_eq.mpr c51; have c51b1 : (t319 != t328) = false := bne_eq_false_iff_eq.mpr c51; clear c51
               by_cases c52 : (t320 == (decide (t328 > 0))) = true
               · rw [if_pos c52] at H
                 have c52b0 : (t320 == (decide (t328 > 0))) = true := c52
                 (try (have c52b1 : decide (t320 = (decide (t328 > 0))) = true := by simpa using c52))
                 (try (have c52b2 : (t320 == (decide (t328 > 0))) = true := by simpa using c52))
                 clear c52; replace H := Option.bind_eq_some_iff.mp H; obtain ⟨t329, A530, H⟩ := H; replace H : (some t329) = some r := H; have A53 := Aside0.mk A530; clear A530; obtain rfl := Option.some.inj H
                 go_wp2_with (first | ((with_reducible refine gate_callee (f := 20) rfl ?_); refine goesL_ (some 80) rfl rfl Tryd.func20 (by kernel_rfl) rfl #[.slice Ao40 t313.length co40, .int .i64 a1, .int .i64 a2] rfl qD151 ?_; (with_reducible refine (rectoref31_Base.calls kj38 _ _ t313 a1 a2 t328 _ ?side1 ?side2 A50.out ?side3).mono ?_); (case side1 => exact qD157); (case side2 => exact (Kd.N_reads' HO_7.out).2.1); (case side3 => exact qD159); rintro e w54 ⟨rfl, hb⟩; refine ⟨_, rfl, ?_⟩; have n0_ := Aside0.mk (Kd.N_below (mND15 HO_7.out) hb); have n1_ := Aside0.mk (below_step qD150 hb); clear HO_7; clear HB; have HO_7 := n0_; have HB := n1_; clear n0_ n1_; (try clear hb); (try clear hb2); (try clear hk); (try clear hi)) | (go_at_call 8; (with_reducible refine (rectolaw31_four.calls kj38  t329 _ A53.out ?side1).mono ?_); (case side1 => exact qD159); rintro e w55 ⟨rfl, hb⟩; have n0_ := Aside0.mk (Kd.N_below (mND15 HO_7.out) hb); have n1_ := Aside0.mk (below_step qD150 hb); clear HO_7; clear HB; have HO_7 := n0_; have HB := n1_; clear n0_ n1_; (try clear hb); (try clear hb2); (try clear hk); (try clear hi)))
                 go_ret
                 exact ⟨qD156, qD150⟩
               · rw [if_neg c52] at H
                 have c52b0 : (t320 == (decide (t328 > 0))) = false := by simpa using c52
                 (try (have c52b1 : decide (t320 = (decide (t328 > 0))) = false := by simpa using c52))
                 (try (have c52b2 : (t320 == (decide (t328 > 0))) = false := by simpa using c52))
                 (try (have c52b3 : ¬ (t320 = (decide (t328 > 0))) := by simpa using c52))
                 clear c52
                 exact absurd ((Option.some.inj H).trans hr_.out) (by decide)
             · rw [if_neg c51] at H
               have c51b0 : (t319 == t328) = false := beq_eq_false_iff_ne.mpr c51; have c51b1 : (t319 != t328) = true := bne_iff_ne.mpr c51
               exact absurd ((Option.some.inj H).trans hr_.out) (by decide)
       · replace c38 := Bool.eq_false_iff.mpr c38
         subst c38
         have H1 : (some false) = some r := by rw [if_neg (show ¬ (false = true) by decide)] at H; exact H
         clear H; have H := H1; clear H1
         exact absurd ((Option.some.inj H).trans hr_.out) (by decide)
theorem rectolaw31_DagBases.calls (k : Nat) (A0 : Option Addr) (c0 : Nat) (l0 : List (S43)) (a1 : Int) (a2 : Int) (r : Bool) (w : World) (hr0 : Kd.C k43 w A0 l0.length l0) (hc0 : l0.length ≤ c0) (h : rectolaw31_DagBases.f k l0 a1 a2 = some r) (HG : Aside0 (Laid w)) (hr_ : r = true := by rfl) :
 Calls Tryd.prog 4 #[.slice A0 l0.length c0, .int .i64 a1, .int .i64 a2] w fun e w' => e = .returned (.bool r) ∧ Below w.heap.size w w' :=
 rectolaw31_DagBases.calls_true k A0 c0 l0 a1 a2 r w hr0 hc0 h HG ⟨hr_⟩

end Go.Proofs.YtgopimjfoppkmaaDoor.D
