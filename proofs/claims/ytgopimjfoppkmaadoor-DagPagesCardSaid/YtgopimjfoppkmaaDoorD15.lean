/- Printed functions, each with a proof that the call answers so. -/
import Derived.Test.YtgopimjfoppkmaaDoorD0
import Derived.Test.YtgopimjfoppkmaaDoorD1
import Derived.Test.YtgopimjfoppkmaaDoorD7
import Derived.Test.YtgopimjfoppkmaaDoorD8
import Derived.Test.YtgopimjfoppkmaaDoorD11
import Derived.Test.YtgopimjfoppkmaaDoorD14
import Derived.Test.YtgopimjfoppkmaaDoorDHist
import Derived.Test.YtgopimjfoppkmaaDoorDLeaves
namespace Go.Proofs.YtgopimjfoppkmaaDoor.D
open Go.RowKit Go.Proofs.YtgopimjfoppkmaaDoorW.PrintWords Go.Proofs.YtgopimjfoppkmaaDoorW.PrintLast Go.Proofs.YtgopimjfoppkmaaDoorW.PrintMore
attribute [local go_sem] max2_int min2_int max_two min_two max_three min_three max_four min_four   -- for this text's walks alone
set_option linter.unusedVariables false
set_option linter.unusedSimpArgs false

theorem mRD15 {p q : Prop} (x : q) (h : q → p := by intro x_; (with_reducible repeat (first | apply Kd.R_alloc | apply Kd.R_drewN | apply Kd.R_drew)); exact x_) : p := h x
theorem mND15 {p q : Prop} (x : q) (h : q → p := by intro x_; (with_reducible repeat (first | apply Kd.N_alloc | apply Kd.N_drewN | apply Kd.N_drew)); exact x_) : p := h x
theorem qD150 {p : Prop} (h : p := by repeat (first | (with_reducible first | exact HB.out | apply below_alloc | apply pw_below_drewN | apply below_drew1) | exact HB.out)) : p := h
theorem qD151 {p : Prop} (h : p := by (try simp only [List.map_toArray, List.map_cons, List.map_nil]); first | done | rfl | (simp only [List.length_drop, List.length_take]; rfl)) : p := h
theorem qD152 {p : Prop} (h : p := by repeat (first | exact (Kd.C_below HR0.out HB.out) | (with_reducible refine Kd.C_alloc ?_ _) | (with_reducible refine Kd.C_drewN ?_ _) | (with_reducible refine Kd.C_drew ?_))) : p := h
theorem qD153 {p : Prop} (h : p := by repeat (first | exact (Kd.N_reads' HO305.out).2.2 | (with_reducible refine Kd.C_alloc ?_ _) | (with_reducible refine Kd.C_drewN ?_ _) | (with_reducible refine Kd.C_drew ?_))) : p := h
theorem qD154 {p : Prop} (h : p := by first | rfl | (simp [errW_none, errW_some] <;> rfl) | (simp [*, errW_none, errW_some] <;> rfl)) : p := h
theorem qD155 {p : Prop} (h : p := by repeat (first | exact (Kd.R_reads' HO310.out).2.2 | (with_reducible refine Kd.C_alloc ?_ _) | (with_reducible refine Kd.C_drewN ?_ _) | (with_reducible refine Kd.C_drew ?_))) : p := h
theorem qD156 {p : Prop} (h : p := by repeat (first | exact (Kd.R_reads' HO318.out).2.2 | (with_reducible refine Kd.C_alloc ?_ _) | (with_reducible refine Kd.C_drewN ?_ _) | (with_reducible refine Kd.C_drew ?_))) : p := h
theorem qD157 {p : Prop} (h : p := by repeat (first | exact (Kd.R_reads' HO313.out).2.2 | (with_reducible refine Kd.C_alloc ?_ _) | (with_reducible refine Kd.C_drewN ?_ _) | (with_reducible refine Kd.C_drew ?_))) : p := h
theorem qD158 {p : Prop} (h : p := by have z_ : ¬ ((t316.length : Int) > 0) := (by intro hz_; have y_ := c20b0; rw [decide_eq_true hz_] at y_; exact absurd y_ (by decide)); omega) : p := h
theorem qD159 {p : Prop} (h : p := by exact (Kd.N_reads' HO305.out).2.1) : p := h
theorem qD1510 {p : Prop} (h : p := by exact Aside0.mk (Laid.below HG.out qD150)) : p := h
theorem qD1511 {p : Prop} (h : p := by exact Kd.V_mk HC0.out (Kd.F_below (Kd.C_F k43_heap HR0.out) qD150)) : p := h
/-! ### rectolaw31_DagPages: function 3 -/
def rectolaw31_DagPages.j0 : Nat → List (S43) → ByteArray → Bool → Option (Bool)
 | 0, _, _, _ => none
 | k + 1, x0, x1, x17 => if x17 = true then ((rectolaw31_four.f k).bind fun t302 => (some t302)) else ((rectolaw31_ref.f k x0).bind fun t303 => ((dag_Head.f k x0 x1).bind fun bt306 => ((dag_History.f k x0 x1).bind fun t308 => ((dag_Leaves.f k x0 x1).bind fun t311 => ((rectoref31_Check.f k t303).bind fun t314 => (if t314 = 0 then ((rectoref31_History.f k t303 x1).bind fun t316 => ((rectoplain_Ints.f k t308 t316).bind fun t319 => (if t319 = true then (if (bt306.2 == (decide ((t316.length : Int) > 0))) = true then (if bt306.2 = true then (if 0 < (t316.length : Int) then (if bt306.1 = (rd t316 0) then ((rectoref31_Leaves.f k t303 x1).bind fun t321 => ((rectoplain_Ints.f k t311 t321).bind fun t324 => (if t324 = true then ((rectolaw31_four.f k).bind fun t325 => (some t325)) else (some false)))) else (some false)) else (none)) else (if bt306.1 = 0 then ((rectoref31_Leaves.f k t303 x1).bind fun t326 => ((rectoplain_Ints.f k t311 t326).bind fun t329 => (if t329 = true then ((rectolaw31_four.f k).bind fun t330 => (some t330)) else (some false)))) else (some false))) else (some false)) else (some false)))) else (if bt306.2 = true then (some false) else (if bt306.1 = 0 then (if (t308.length : Int) = 0 then (if (t311.length : Int) = 0 then ((rectolaw31_four.f k).bind fun t315 => (some t315)) else (some false)) else (some false)) else (some false)))))))))
def rectolaw31_DagPages.f (k : Nat) (l0 : List (S43)) (a1 : ByteArray) : Option (Bool) := (rectolaw31_long.f k l0).bind fun t301 => (if t301 = true then (rectolaw31_DagPages.j0 k l0 a1 true) else (rectolaw31_DagPages.j0 k l0 a1 (decide ((a1.size : Int) > 200))))
theorem rectolaw31_DagPages.mono_l : ∀ k, (∀ y0 y1 y2, LeO (rectolaw31_DagPages.j0 k y0 y1 y2) (rectolaw31_DagPages.j0 (k + 1) y0 y1 y2))
 | 0 => fun _ _ _ r h => by simp [rectolaw31_DagPages.j0] at h
 | k + 1 => by
  have ih0 := rectolaw31_DagPages.mono_l k
  · intro y0 y1 y2
    unfold rectolaw31_DagPages.j0
    repeat' first
    | (with_reducible exact ih0 _ _ _)
    | (with_reducible exact dag_Head.mono _ _ _)
    | (with_reducible exact dag_History.mono _ _ _)
    | (with_reducible exact dag_Leaves.mono _ _ _)
    | (with_reducible exact rectolaw31_four.mono _)
    | (with_reducible exact rectolaw31_long.mono _ _)
    | (with_reducible exact rectolaw31_ref.mono _ _)
    | (with_reducible exact rectoplain_Ints.mono _ _ _)
    | (with_reducible exact rectoref31_Check.mono _ _)
    | (with_reducible exact rectoref31_History.mono _ _ _)
    | (with_reducible exact rectoref31_Leaves.mono _ _ _)
    | (with_reducible exact LeO.refl _)
    | (with_reducible exact LeO.none _)
    | (with_reducible refine LeO.ite ?_ ?_)
    | (with_reducible refine LeO.bind ?_ (fun _ => ?_))
    | exact ih0 _ _ _
    | exact dag_Head.mono _ _ _
    | exact dag_History.mono _ _ _
    | exact dag_Leaves.mono _ _ _
    | exact rectolaw31_four.mono _
    | exact rectolaw31_long.mono _ _
    | exact rectolaw31_ref.mono _ _
    | exact rectoplain_Ints.mono _ _ _
    | exact rectoref31_Check.mono _ _
    | exact rectoref31_History.mono _ _ _
    | exact rectoref31_Leaves.mono _ _ _
    | exact LeO.none _
    | refine LeO.ite ?_ ?_
    | refine LeO.bind ?_ (fun _ => ?_)
theorem rectolaw31_DagPages.mono : ∀ a0 a1 k, LeO (rectolaw31_DagPages.f k a0 a1) (rectolaw31_DagPages.f (k + 1) a0 a1) := by
 intro a0 a1 k
 have ih0 := rectolaw31_DagPages.mono_l k; unfold rectolaw31_DagPages.f
 repeat' first
  | (with_reducible exact ih0 _ _ _)
  | (with_reducible exact dag_Head.mono _ _ _)
  | (with_reducible exact dag_History.mono _ _ _)
  | (with_reducible exact dag_Leaves.mono _ _ _)
  | (with_reducible exact rectolaw31_four.mono _)
  | (with_reducible exact rectolaw31_long.mono _ _)
  | (with_reducible exact rectolaw31_ref.mono _ _)
  | (with_reducible exact rectoplain_Ints.mono _ _ _)
  | (with_reducible exact rectoref31_Check.mono _ _)
  | (with_reducible exact rectoref31_History.mono _ _ _)
  | (with_reducible exact rectoref31_Leaves.mono _ _ _)
  | (with_reducible exact LeO.refl _)
  | (with_reducible exact LeO.none _)
  | (with_reducible refine LeO.ite ?_ ?_)
  | (with_reducible refine LeO.bind ?_ (fun _ => ?_))
  | exact ih0 _ _ _
  | exact dag_Head.mono _ _ _
  | exact dag_History.mono _ _ _
  | exact dag_Leaves.mono _ _ _
  | exact rectolaw31_four.mono _
  | exact rectolaw31_long.mono _ _
  | exact rectolaw31_ref.mono _ _
  | exact rectoplain_Ints.mono _ _ _
  | exact rectoref31_Check.mono _ _
  | exact rectoref31_History.mono _ _ _
  | exact rectoref31_Leaves.mono _ _ _
  | exact LeO.none _
  | refine LeO.ite ?_ ?_
  | refine LeO.bind ?_ (fun _ => ?_)
set_option maxHeartbeats 8000000 in
set_option maxRecDepth 100000 in
theorem rectolaw31_DagPages.calls_true (k : Nat) (A0 : Option Addr) (c0 : Nat) (l0 : List (S43)) (a1 : ByteArray) (r : Bool) (w : World) (hr0 : Kd.C k43 w A0 l0.length l0) (hc0 : l0.length ≤ c0) (h : rectolaw31_DagPages.f k l0 a1 = some r) (HG : Aside0 (Laid w)) (hr_ : Aside0 (r = true)) :
 Calls Tryd.prog 3 #[.slice A0 l0.length c0, .string a1] w fun e w' => e = .returned (.bool r) ∧ Below w.heap.size w w' := by
 have HR0 := Aside0.mk hr0; have HC0 := Aside0.mk hc0; clear hr0 hc0; have HB := Aside0.mk (Below.refl w.heap.size w)
 have H : ((rectolaw31_long.f k l0).bind fun t301 => (if t301 = true then (rectolaw31_DagPages.j0 k l0 a1 true) else (rectolaw31_DagPages.j0 k l0 a1 (decide ((a1.size : Int) > 200))))) = some r := h
 clear h; have HC3 := Aside0.mk H; clear H
 go_enter Tryd.func3, Tryd.ntmps3
 go_upto_region 1 with (fail)
 go_cut [17] (fun v17 wc => ∃ (kq : Nat) (x17_2 : Bool), v17 = .bool x17_2 ∧ Aside0 (rectolaw31_DagPages.j0 kq l0 a1 x17_2 = some r) ∧ Aside0 (kq ≤ k) ∧ Aside0 (Below w.heap.size w wc))
 case first =>
  have H := HC3.out; clear HC3; replace H := Option.bind_eq_some_iff.mp H; obtain ⟨t301, A40, H⟩ := H
  replace H : (if t301 = true then (rectolaw31_DagPages.j0 k l0 a1 true) else (rectolaw31_DagPages.j0 k l0 a1 (decide ((a1.size : Int) > 200)))) = some r := H
  have A4 := Aside0.mk A40; clear A40
  by_cases c5 : t301 = true
  · subst c5
    have H1 : (rectolaw31_DagPages.j0 k l0 a1 true) = some r := by rw [if_pos rfl] at H; exact H
    clear H; have H := H1; clear H1; have H' := Aside0.mk H; clear H
    go_wp2_with (first | ((with_reducible refine gate_callee (f := 7) rfl ?_); refine goesL_ (some 12) rfl rfl Tryd.func7 (by kernel_rfl) rfl #[.slice A0 l0.length c0] rfl qD151 ?_; (with_reducible refine (rectolaw31_long.calls k _ _ l0 true _ ?side1 ?side2 A4.out ?side3).mono ?_); (case side1 => exact qD152); (case side2 => exact HC0.out); (case side3 => exact qD1510); rintro e w6 ⟨rfl, hb⟩; refine ⟨_, rfl, ?_⟩; have n0_ := Aside0.mk (below_step qD150 hb); clear HB; have HB := n0_; clear n0_; (try clear hb); (try clear hb2); (try clear hk); (try clear hi)))
    go_meet
    case rel => exact ⟨_, (true), (by first | rfl | (simp; done) | (simp [*]; done)), H', ⟨by first | omega | exact Nat.le_refl _⟩, ⟨qD150⟩⟩
  · replace c5 := Bool.eq_false_iff.mpr c5
    subst c5
    have H1 : (rectolaw31_DagPages.j0 k l0 a1 (decide ((a1.size : Int) > 200))) = some r := by rw [if_neg (show ¬ (false = true) by decide)] at H; exact H
    clear H; have H := H1; clear H1; have H' := Aside0.mk H; clear H
    go_wp2_with (first | ((with_reducible refine gate_callee (f := 7) rfl ?_); refine goesL_ (some 12) rfl rfl Tryd.func7 (by kernel_rfl) rfl #[.slice A0 l0.length c0] rfl qD151 ?_; (with_reducible refine (rectolaw31_long.calls k _ _ l0 false _ ?side1 ?side2 A4.out ?side3).mono ?_); (case side1 => exact qD152); (case side2 => exact HC0.out); (case side3 => exact qD1510); rintro e w7 ⟨rfl, hb⟩; refine ⟨_, rfl, ?_⟩; have n0_ := Aside0.mk (below_step qD150 hb); clear HB; have HB := n0_; clear n0_; (try clear hb); (try clear hb2); (try clear hk); (try clear hi)))
    go_meet
    case rel => exact ⟨_, (decide ((a1.size : Int) > 200)), (by first | rfl | (simp; done) | (simp [*]; done)), H', ⟨by first | omega | exact Nat.le_refl _⟩, ⟨qD150⟩⟩
 case rest =>
  clear HC3; (try clear p2); (try clear c3); (try clear c5); (try clear c7); obtain ⟨kq, x17_2, rfl, HA, HJ2, HB⟩ := hcut
  cases kq with
  | zero => exact absurd HA.out (by simp [rectolaw31_DagPages.j0])
  | succ kj2 =>
   have H := HA.out; clear HA; simp only [rectolaw31_DagPages.j0] at H
   by_cases c8 : x17_2 = true
   · subst c8
     have H1 : ((rectolaw31_four.f kj2).bind fun t302 => (some t302)) = some r := by rw [if_pos rfl] at H; exact H
     clear H; have H := H1; clear H1; replace H := Option.bind_eq_some_iff.mp H; obtain ⟨t302, A90, H⟩ := H; replace H : (some t302) = some r := H; have A9 := Aside0.mk A90; clear A90; obtain rfl := Option.some.inj H
     go_wp2_with (first | ((with_reducible refine gate_callee (f := 8) rfl ?_); refine goesL_ (some 18) rfl rfl Tryd.func8 (by kernel_rfl) rfl #[] rfl qD151 ?_; (with_reducible refine (rectolaw31_four.calls kj2  t302 _ A9.out ?side1).mono ?_); (case side1 => exact qD1510); rintro e w10 ⟨rfl, hb⟩; refine ⟨_, rfl, ?_⟩; have n0_ := Aside0.mk (below_step qD150 hb); clear HB; have HB := n0_; clear n0_; (try clear hb); (try clear hb2); (try clear hk); (try clear hi)))
     go_ret
     exact ⟨qD154, qD150⟩
   · replace c8 := Bool.eq_false_iff.mpr c8
     subst c8
     have H1 : ((rectolaw31_ref.f kj2 l0).bind fun t303 => ((dag_Head.f kj2 l0 a1).bind fun bt306 => ((dag_History.f kj2 l0 a1).bind fun t308 => ((dag_Leaves.f kj2 l0 a1).bind fun t311 => ((rectoref31_Check.f kj2 t303).bind fun t314 => (if t314 = 0 then ((rectoref31_History.f kj2 t303 a1).bind fun t316 => ((rectoplain_Ints.f kj2 t308 t316).bind fun t319 => (if t319 = true then (if (bt306.2 == (decide ((t316.length : Int) > 0))) = true then (if bt306.2 = true then (if 0 < (t316.length : Int) then (if bt306.1 = (rd t316 0) then ((rectoref31_Leaves.f kj2 t303 a1).bind fun t321 => ((rectoplain_Ints.f kj2 t311 t321).bind fun t324 => (if t324 = true then ((rectolaw31_four.f kj2).bind fun t325 => (some t325)) else (some false)))) else (some false)) else (none)) else (if bt306.1 = 0 then ((rectoref31_Leaves.f kj2 t303 a1).bind fun t326 => ((rectoplain_Ints.f kj2 t311 t326).bind fun t329 => (if t329 = true then ((rectolaw31_four.f kj2).bind fun t330 => (some t330)) else (some false)))) else (some false))) else (some false)) else (some false)))) else (if bt306.2 = true then (some false) else (if bt306.1 = 0 then (if (t308.length : Int) = 0 then (if (t311.length : Int) = 0 then ((rectolaw31_four.f kj2).bind fun t315 => (some t315)) else (some false)) else (some false)) else (some false))))))))) = some r := by rw [if_neg (show ¬ (false = true) by decide)] at H; exact H
     clear H; have H := H1; clear H1; replace H := Option.bind_eq_some_iff.mp H; obtain ⟨t303, A110, H⟩ := H
     replace H : ((dag_Head.f kj2 l0 a1).bind fun bt306 => ((dag_History.f kj2 l0 a1).bind fun t308 => ((dag_Leaves.f kj2 l0 a1).bind fun t311 => ((rectoref31_Check.f kj2 t303).bind fun t314 => (if t314 = 0 then ((rectoref31_History.f kj2 t303 a1).bind fun t316 => ((rectoplain_Ints.f kj2 t308 t316).bind fun t319 => (if t319 = true then (if (bt306.2 == (decide ((t316.length : Int) > 0))) = true then (if bt306.2 = true then (if 0 < (t316.length : Int) then (if bt306.1 = (rd t316 0) then ((rectoref31_Leaves.f kj2 t303 a1).bind fun t321 => ((rectoplain_Ints.f kj2 t311 t321).bind fun t324 => (if t324 = true then ((rectolaw31_four.f kj2).bind fun t325 => (some t325)) else (some false)))) else (some false)) else (none)) else (if bt306.1 = 0 then ((rectoref31_Leaves.f kj2 t303 a1).bind fun t326 => ((rectoplain_Ints.f kj2 t311 t326).bind fun t329 => (if t329 = true then ((rectolaw31_four.f kj2).bind fun t330 => (some t330)) else (some false)))) else (some false))) else (some false)) else (some false)))) else (if bt306.2 = true then (some false) else (if bt306.1 = 0 then (if (t308.length : Int) = 0 then (if (t311.length : Int) = 0 then ((rectolaw31_four.f kj2).bind fun t315 => (some t315)) else (some false)) else (some false)) else (some false)))))))) = some r := H
     have A11 := Aside0.mk A110; clear A110; replace H := Option.bind_eq_some_iff.mp H; obtain ⟨⟨t306, t307⟩, A120, H⟩ := H
     replace H : ((dag_History.f kj2 l0 a1).bind fun t308 => ((dag_Leaves.f kj2 l0 a1).bind fun t311 => ((rectoref31_Check.f kj2 t303).bind fun t314 => (if t314 = 0 then ((rectoref31_History.f kj2 t303 a1).bind fun t316 => ((rectoplain_Ints.f kj2 t308 t316).bind fun t319 => (if t319 = true then (if (t307 == (decide ((t316.length : Int) > 0))) = true then (if t307 = true then (if 0 < (t316.length : Int) then (if t306 = (rd t316 0) then ((rectoref31_Leaves.f kj2 t303 a1).bind fun t321 => ((rectoplain_Ints.f kj2 t311 t321).bind fun t324 => (if t324 = true then ((rectolaw31_four.f kj2).bind fun t325 => (some t325)) else (some false)))) else (some false)) else (none)) else (if t306 = 0 then ((rectoref31_Leaves.f kj2 t303 a1).bind fun t326 => ((rectoplain_Ints.f kj2 t311 t326).bind fun t329 => (if t329 = true then ((rectolaw31_four.f kj2).bind fun t330 => (some t330)) else (some false)))) else (some false))) else (some false)) else (some false)))) else (if t307 = true then (some false) else (if t306 = 0 then (if (t308.length : Int) = 0 then (if (t311.length : Int) = 0 then ((rectolaw31_four.f kj2).bind fun t315 => (some t315)) else (some false)) else (some false)) else (some false))))))) = some r := H
     have A12 := Aside0.mk A120; clear A120; replace H := Option.bind_eq_some_iff.mp H; obtain ⟨t308, A130, H⟩ := H
     replace H : ((dag_Leaves.f kj2 l0 a1).bind fun t311 => ((rectoref31_Check.f kj2 t303).bind fun t314 => (if t314 = 0 then ((rectoref31_History.f kj2 t303 a1).bind fun t316 => ((rectoplain_Ints.f kj2 t308 t316).bind fun t319 => (if t319 = true then (if (t307 == (decide ((t316.length : Int) > 0))) = true then (if t307 = true then (if 0 < (t316.length : Int) then (if t306 = (rd t316 0) then ((rectoref31_Leaves.f kj2 t303 a1).bind fun t321 => ((rectoplain_Ints.f kj2 t311 t321).bind fun t324 => (if t324 = true then ((rectolaw31_four.f kj2).bind fun t325 => (some t325)) else (some false)))) else (some false)) else (none)) else (if t306 = 0 then ((rectoref31_Leaves.f kj2 t303 a1).bind fun t326 => ((rectoplain_Ints.f kj2 t311 t326).bind fun t329 => (if t329 = true then ((rectolaw31_four.f kj2).bind fun t330 => (some t330)) else (some false)))) else (some false))) else (some false)) else (some false)))) else (if t307 = true then (some false) else (if t306 = 0 then (if (t308.length : Int) = 0 then (if (t311.length : Int) = 0 then ((rectolaw31_four.f kj2).bind fun t315 => (some t315)) else (some false)) else (some false)) else (some false)))))) = some r := H
     have A13 := Aside0.mk A130; clear A130; replace H := Option.bind_eq_some_iff.mp H; obtain ⟨t311, A140, H⟩ := H
     replace H : ((rectoref31_Check.f kj2 t303).bind fun t314 => (if t314 = 0 then ((rectoref31_History.f kj2 t303 a1).bind fun t316 => ((rectoplain_Ints.f kj2 t308 t316).bind fun t319 => (if t319 = true then (if (t307 == (decide ((t316.length : Int) > 0))) = true then (if t307 = true then (if 0 < (t316.length : Int) then (if t306 = (rd t316 0) then ((rectoref31_Leaves.f kj2 t303 a1).bind fun t321 => ((rectoplain_Ints.f kj2 t311 t321).bind fun t324 => (if t324 = true then ((rectolaw31_four.f kj2).bind fun t325 => (some t325)) else (some false)))) else (some false)) else (none)) else (if t306 = 0 then ((rectoref31_Leaves.f kj2 t303 a1).bind fun t326 => ((rectoplain_Ints.f kj2 t311 t326).bind fun t329 => (if t329 = true then ((rectolaw31_four.f kj2).bind fun t330 => (some t330)) else (some false)))) else (some false))) else (some false)) else (some false)))) else (if t307 = true then (some false) else (if t306 = 0 then (if (t308.length : Int) = 0 then (if (t311.length : Int) = 0 then ((rectolaw31_four.f kj2).bind fun t315 => (some t315)) else (some false)) else (some false)) else (some false))))) = some r := H
     have A14 := Aside0.mk A140; clear A140; replace H := Option.bind_eq_some_iff.mp H; obtain ⟨t314, A150, H⟩ := H
     replace H : (if t314 = 0 then ((rectoref31_History.f kj2 t303 a1).bind fun t316 => ((rectoplain_Ints.f kj2 t308 t316).bind fun t319 => (if t319 = true then (if (t307 == (decide ((t316.length : Int) > 0))) = true then (if t307 = true then (if 0 < (t316.length : Int) then (if t306 = (rd t316 0) then ((rectoref31_Leaves.f kj2 t303 a1).bind fun t321 => ((rectoplain_Ints.f kj2 t311 t321).bind fun t324 => (if t324 = true then ((rectolaw31_four.f kj2).bind fun t325 => (some t325)) else (some false)))) else (some false)) else (none)) else (if t306 = 0 then ((rectoref31_Leaves.f kj2 t303 a1).bind fun t326 => ((rectoplain_Ints.f kj2 t311 t326).bind fun t329 => (if t329 = true then ((rectolaw31_four.f kj2).bind fun t330 => (some t330)) else (some false)))) else (some false))) else (some false)) else (some false)))) else (if t307 = true then (some false) else (if t306 = 0 then (if (t308.length : Int) = 0 then (if (t311.length : Int) = 0 then ((rectolaw31_four.f kj2).bind fun t315 => (some t315)) else (some false)) else (some false)) else (some false)))) = some r := H
     have A15 := Aside0.mk A150; clear A150
     by_cases c16 : t314 = 0
     · rw [if_pos c16] at H
       have c16b0 : (t314 == 0) = true := beq_iff_eq.mpr c16; have c16b1 : (t314 != 0) = false := bne_eq_false_iff_eq.mpr c16; clear c16; replace H := Option.bind_eq_some_iff.mp H; obtain ⟨t316, A170, H⟩ := H
       replace H : ((rectoplain_Ints.f kj2 t308 t316).bind fun t319 => (if t319 = true then (if (t307 == (decide ((t316.length : Int) > 0))) = true then (if t307 = true then (if 0 < (t316.length : Int) then (if t306 = (rd t316 0) then ((rectoref31_Leaves.f kj2 t303 a1).bind fun t321 => ((rectoplain_Ints.f kj2 t311 t321).bind fun t324 => (if t324 = true then ((rectolaw31_four.f kj2).bind fun t325 => (some t325)) else (some false)))) else (some false)) else (none)) else (if t306 = 0 then ((rectoref31_Leaves.f kj2 t303 a1).bind fun t326 => ((rectoplain_Ints.f kj2 t311 t326).bind fun t329 => (if t329 = true then ((rectolaw31_four.f kj2).bind fun t330 => (some t330)) else (some false)))) else (some false))) else (some false)) else (some false))) = some r := H
       have A17 := Aside0.mk A170; clear A170; replace H := Option.bind_eq_some_iff.mp H; obtain ⟨t319, A180, H⟩ := H
       replace H : (if t319 = true then (if (t307 == (decide ((t316.length : Int) > 0))) = true then (if t307 = true then (if 0 < (t316.length : Int) then (if t306 = (rd t316 0) then ((rectoref31_Leaves.f kj2 t303 a1).bind fun t321 => ((rectoplain_Ints.f kj2 t311 t321).bind fun t324 => (if t324 = true then ((rectolaw31_four.f kj2).bind fun t325 => (some t325)) else (some false)))) else (some false)) else (none)) else (if t306 = 0 then ((rectoref31_Leaves.f kj2 t303 a1).bind fun t326 => ((rectoplain_Ints.f kj2 t311 t326).bind fun t329 => (if t329 = true then ((rectolaw31_four.f kj2).bind fun t330 => (some t330)) else (some false)))) else (some false))) else (some false)) else (some false)) = some r := H
       have A18 := Aside0.mk A180; clear A180
       by_cases c19 : t319 = true
       · subst c19
         have H1 : (if (t307 == (decide ((t316.length : Int) > 0))) = true then (if t307 = true then (if 0 < (t316.length : Int) then (if t306 = (rd t316 0) then ((rectoref31_Leaves.f kj2 t303 a1).bind fun t321 => ((rectoplain_Ints.f kj2 t311 t321).bind fun t324 => (if t324 = true then ((rectolaw31_four.f kj2).bind fun t325 => (some t325)) else (some false)))) else (some false)) else (none)) else (if t306 = 0 then ((rectoref31_Leaves.f kj2 t303 a1).bind fun t326 => ((rectoplain_Ints.f kj2 t311 t326).bind fun t329 => (if t329 = true then ((rectolaw31_four.f kj2).bind fun t330 => (some t330)) else (some false)))) else (some false))) else (some false)) = some r := by rw [if_pos rfl] at H; exact H
         clear H; have H := H1; clear H1
         by_cases c20 : (t307 == (decide ((t316.length : Int) > 0))) = true
         · rw [if_pos c20] at H
           have c20b0 : (t307 == (decide ((t316.length : Int) > 0))) = true := c20
           (try (have c20b1 : decide (t307 = (decide ((t316.length : Int) > 0))) = true := by simpa using c20))
           (try (have c20b2 : (t307 == (decide ((t316.length : Int) > 0))) = true := by simpa using c20))
           clear c20
           by_cases c21 : t307 = true
           · subst c21
             have H1 : (if 0 < (t316.length : Int) then (if t306 = (rd t316 0) then ((rectoref31_Leaves.f kj2 t303 a1).bind fun t321 => ((rectoplain_Ints.f kj2 t311 t321).bind fun t324 => (if t324 = true then ((rectolaw31_four.f kj2).bind fun t325 => (some t325)) else (some false)))) else (some false)) else (none)) = some r := by rw [if_pos rfl] at H; exact H
             clear H; have H := H1; clear H1
             by_cases c22 : 0 < (t316.length : Int)
             · rw [if_pos c22] at H
               have c22b0 : decide (0 < (t316.length : Int)) = true := decide_eq_true c22; have c22b1 : decide (0 < t316.length) = true := decide_eq_true (by omega); clear c22
               by_cases c23 : t306 = (rd t316 0)
               · rw [if_pos c23] at H
                 have c23b0 : (t306 == (rd t316 0)) = true := beq_iff_eq.mpr c23; have c23b1 : (t306 != (rd t316 0)) = false := bne_eq_false_iff_eq.mpr c23; clear c23; replace H := Option.bind_eq_some_iff.mp H; obtain ⟨t321, A240, H⟩ := H
                 replace H : ((rectoplain_Ints.f kj2 t311 t321).bind fun t324 => (if t324 = true then ((rectolaw31_four.f kj2).bind fun t325 => (some t325)) else (some false))) = some r := H
                 have A24 := Aside0.mk A240; clear A240; replace H := Option.bind_eq_some_iff.mp H; obtain ⟨t324, A250, H⟩ := H
                 replace H : (if t324 = true then ((rectolaw31_four.f kj2).bind fun t325 => (some t325)) else (some false)) = some r := H
                 have A25 := Aside0.mk A250; clear A250
                 by_cases c26 : t324 = true
                 · subst c26
                   have H1 : ((rectolaw31_four.f kj2).bind fun t325 => (some t325)) = some r := by rw [if_pos rfl] at H; exact H
                   clear H; have H := H1; clear H1; replace H := Option.bind_eq_some_iff.mp H; obtain ⟨t325, A270, H⟩ := H; replace H : (some t325) = some r := H; have A27 := Aside0.mk A270; clear A270; obtain rfl := Option.some.inj H
                   go_wp2_with (first | ((with_reducible refine gate_callee (f := 9) rfl ?_); refine goesL_ (some 20) rfl rfl Tryd.func9 (by kernel_rfl) rfl #[.slice A0 l0.length c0] rfl qD151 ?_; (with_reducible refine (rectolaw31_ref.calls kj2 (fun k_ => k_ < w.heap.size) _ _ l0 t303 _ ?side1 A11.out ?side2).mono ?_); (case side1 => exact qD1511); (case side2 => exact qD1510); rintro e w28 ⟨v304, rfl, ho0, hb⟩; refine ⟨_, rfl, ?_⟩; have n0_ := Aside0.mk (Kd.N_lower (Kd.N_mono (ok' := fun k_ => True) ho0 (fun k_ hk_ => trivial)) (below_size qD150)); have n1_ := Aside0.mk (below_step qD150 hb); clear HB; have HO305 := n0_; have HB := n1_; clear n0_ n1_; (try clear hb); (try clear hb2); (try clear hk); (try clear hi); (try clear ho0)) | ((with_reducible refine gate_callee (f := 10) rfl ?_); refine goesL_ (some 24) rfl rfl Tryd.func10 (by kernel_rfl) rfl #[.slice A0 l0.length c0, .string a1] rfl qD151 ?_; (with_reducible refine (dag_Head.calls kj2 _ _ l0 a1 t306 true _ ?side1 ?side2 A12.out ?side3).mono ?_); (case side1 => exact qD152); (case side2 => exact HC0.out); (case side3 => exact qD1510); rintro e w29 ⟨rfl, hb⟩; refine ⟨_, rfl, ?_⟩; have n0_ := Aside0.mk (Kd.N_below (mND15 HO305.out) hb); have n1_ := Aside0.mk (below_step qD150 hb); clear HO305; clear HB; have HO305 := n0_; have HB := n1_; clear n0_ n1_; (try clear hb); (try clear hb2); (try clear hk); (try clear hi)) | ((with_reducible refine gate_callee (f := 11) rfl ?_); refine goesL_ (some 29) rfl rfl Tryd.func11 (by kernel_rfl) rfl #[.slice A0 l0.length c0, .string a1] rfl qD151 ?_; (with_reducible refine (dag_History.calls kj2 _ _ l0 a1 t308 _ ?side1 ?side2 A13.out ?side3).mono ?_); (case side1 => exact qD152); (case side2 => exact HC0.out); (case side3 => exact qD1510); rintro e w30 ⟨v309, rfl, ho0, hb⟩; refine ⟨_, rfl, ?_⟩; have n0_ := Aside0.mk (Kd.N_elder' (mND15 HO305.out) (Kd.R_base ho0) hb); have n1_ := Aside0.mk (Kd.R_lower ho0 (below_size qD150)); have n2_ := Aside0.mk (below_step qD150 hb); clear HO305; clear HB; have HO305 := n0_; have HO310 := n1_; have HB := n2_; clear n0_ n1_ n2_; (try clear hb); (try clear hb2); (try clear hk); (try clear hi); (try clear ho0)) | ((with_reducible refine gate_callee (f := 12) rfl ?_); refine goesL_ (some 32) rfl rfl Tryd.func12 (by kernel_rfl) rfl #[.slice A0 l0.length c0, .string a1] rfl qD151 ?_; (with_reducible refine (dag_Leaves.calls kj2 _ _ l0 a1 t311 _ ?side1 ?side2 A14.out ?side3).mono ?_); (case side1 => exact qD152); (case side2 => exact HC0.out); (case side3 => exact qD1510); rintro e w31 ⟨v312, rfl, ho0, hb⟩; refine ⟨_, rfl, ?_⟩; have n0_ := Aside0.mk (Kd.N_elder' (mND15 HO305.out) (Kd.R_base ho0) hb); have n1_ := Aside0.mk (Kd.R_elder' (mRD15 HO310.out) (Kd.R_base ho0) hb); have n2_ := Aside0.mk (Kd.R_lower (Kd.R_new' ho0 (Kd.R_lt (mRD15 HO310.out))) (below_size qD150)); have n3_ := Aside0.mk (below_step qD150 hb); clear HO305; clear HO310; clear HB; have HO305 := n0_; have HO310 := n1_; have HO313 := n2_; have HB := n3_; clear n0_ n1_ n2_ n3_; (try clear hb); (try clear hb2); (try clear hk); (try clear hi); (try clear ho0); obtain ⟨Ao32, co32, eo32⟩ := Kd.N_slice HO305.out; subst eo32) | ((with_reducible refine gate_callee (f := 13) rfl ?_); refine goesL_ (some 34) rfl rfl Tryd.func13 (by kernel_rfl) rfl #[.slice Ao32 t303.length co32] rfl qD151 ?_; (with_reducible refine (rectoref31_Check.calls kj2 _ _ t303 t314 _ ?side1 ?side2 A15.out ?side3).mono ?_); (case side1 => exact qD153); (case side2 => exact qD159); (case side3 => exact qD1510); rintro e w33 ⟨rfl, hb⟩; refine ⟨_, rfl, ?_⟩; have n0_ := Aside0.mk (Kd.N_below (mND15 HO305.out) hb); have n1_ := Aside0.mk (Kd.R_below (mRD15 HO310.out) hb); have n2_ := Aside0.mk (Kd.R_below (mRD15 HO313.out) hb); have n3_ := Aside0.mk (below_step qD150 hb); clear HO305; clear HO310; clear HO313; clear HB; have HO305 := n0_; have HO310 := n1_; have HO313 := n2_; have HB := n3_; clear n0_ n1_ n2_ n3_; (try clear hb); (try clear hb2); (try clear hk); (try clear hi)) | ((with_reducible refine gate_callee (f := 14) rfl ?_); refine goesL_ (some 57) rfl rfl Tryd.func14 (by kernel_rfl) rfl #[.slice Ao32 t303.length co32, .string a1] rfl qD151 ?_; (with_reducible refine (rectoref31_History.calls kj2 _ _ t303 a1 t316 _ ?side1 ?side2 A17.out ?side3).mono ?_); (case side1 => exact qD153); (case side2 => exact qD159); (case side3 => exact qD1510); rintro e w34 ⟨v317, rfl, ho0, hb⟩; refine ⟨_, rfl, ?_⟩; have n0_ := Aside0.mk (Kd.N_elder' (mND15 HO305.out) (Kd.R_base ho0) hb); have n1_ := Aside0.mk (Kd.R_elder' (mRD15 HO310.out) (Kd.R_base ho0) hb); have n2_ := Aside0.mk (Kd.R_elder' (mRD15 HO313.out) (Kd.R_base ho0) hb); have n3_ := Aside0.mk (Kd.R_lower (Kd.R_new' (Kd.R_new' ho0 (Kd.R_lt (mRD15 HO310.out))) (Kd.R_lt (mRD15 HO313.out))) (below_size qD150)); have n4_ := Aside0.mk (below_step qD150 hb); clear HO305; clear HO310; clear HO313; clear HB; have HO305 := n0_; have HO310 := n1_; have HO313 := n2_; have HO318 := n3_; have HB := n4_; clear n0_ n1_ n2_ n3_ n4_; (try clear hb); (try clear hb2); (try clear hk); (try clear hi); (try clear ho0); obtain ⟨Ao35, co35, eo35⟩ := Kd.R_slice HO310.out; subst eo35; obtain ⟨Ao36, co36, eo36⟩ := Kd.R_slice HO318.out; subst eo36) | ((with_reducible refine gate_callee (f := 15) rfl ?_); refine goesL_ (some 60) rfl rfl Tryd.func15 (by kernel_rfl) rfl #[.slice Ao35 t308.length co35, .slice Ao36 t316.length co36] rfl qD151 ?_; (with_reducible refine (rectoplain_Ints.calls kj2 _ _ t308 _ _ t316 true _ ?side1 ?side2 ?side3 ?side4 A18.out ?side5).mono ?_); (case side1 => exact qD155); (case side2 => exact (Kd.R_reads' HO310.out).2.1); (case side3 => exact qD156); (case side4 => exact (Kd.R_reads' HO318.out).2.1); (case side5 => exact qD1510); rintro e w' ⟨rfl, ⟨nd, rfl⟩⟩; refine ⟨_, rfl, ?_⟩; have p320 : 0 ≤ (0 : Int) := (by omega); have q320 : 0 < (t316.length : Int) := of_decide_eq_true (by first | (with_reducible assumption) | assumption); obtain ⟨ad320, e320, hx320_0⟩ := Kd.at_int (Kd.R_reads' HO318.out).2.2 0 p320 q320; cases e320; have qi320 : (0 < t316.length) = True := eq_true (by omega); (try rw [show ((0 : Int)).toNat = 0 from rfl] at hx320_0); (try rw [Addr.add_zero'] at hx320_0); replace p320 := eq_true p320; replace q320 := eq_true q320) | (go_at_call 16; (with_reducible refine (rectoref31_Leaves.calls kj2 _ _ t303 a1 t321 _ ?side1 ?side2 A24.out ?side3).mono ?_); (case side1 => exact qD153); (case side2 => exact qD159); (case side3 => exact qD1510); rintro e w37 ⟨v322, rfl, ho0, hb⟩; have n0_ := Aside0.mk (Kd.N_elder' (mND15 HO305.out) (Kd.R_base ho0) hb); have n1_ := Aside0.mk (Kd.R_elder' (mRD15 HO310.out) (Kd.R_base ho0) hb); have n2_ := Aside0.mk (Kd.R_elder' (mRD15 HO313.out) (Kd.R_base ho0) hb); have n3_ := Aside0.mk (Kd.R_elder' (mRD15 HO318.out) (Kd.R_base ho0) hb); have n4_ := Aside0.mk (Kd.R_lower (Kd.R_new' (Kd.R_new' (Kd.R_new' ho0 (Kd.R_lt (mRD15 HO310.out))) (Kd.R_lt (mRD15 HO313.out))) (Kd.R_lt (mRD15 HO318.out))) (below_size qD150)); have n5_ := Aside0.mk (below_step qD150 hb); clear HO305; clear HO310; clear HO313; clear HO318; clear HB; have HO305 := n0_; have HO310 := n1_; have HO313 := n2_; have HO318 := n3_; have HO323 := n4_; have HB := n5_; clear n0_ n1_ n2_ n3_ n4_ n5_; (try clear hb); (try clear hb2); (try clear hk); (try clear hi); (try clear ho0); obtain ⟨Ao38, co38, eo38⟩ := Kd.R_slice HO313.out; subst eo38; obtain ⟨Ao39, co39, eo39⟩ := Kd.R_slice HO323.out; subst eo39) | (go_at_call 15; (with_reducible refine (rectoplain_Ints.calls kj2 _ _ t311 _ _ t321 true _ ?side1 ?side2 ?side3 ?side4 A25.out ?side5).mono ?_); (case side1 => exact qD157); (case side2 => exact (Kd.R_reads' HO313.out).2.1); (case side3 => repeat (first | exact (Kd.R_reads' HO323.out).2.2 | (with_reducible refine Kd.C_alloc ?_ _) | (with_reducible refine Kd.C_drewN ?_ _) | (with_reducible refine Kd.C_drew ?_))); (case side4 => exact (Kd.R_reads' HO323.out).2.1); (case side5 => exact qD1510); rintro e w' ⟨rfl, ⟨nd, rfl⟩⟩) | (go_at_call 8; (with_reducible refine (rectolaw31_four.calls kj2  t325 _ A27.out ?side1).mono ?_); (case side1 => exact qD1510); rintro e w40 ⟨rfl, hb⟩; have n0_ := Aside0.mk (Kd.N_below (mND15 HO305.out) hb); have n1_ := Aside0.mk (Kd.R_below (mRD15 HO310.out) hb); have n2_ := Aside0.mk (Kd.R_below (mRD15 HO313.out) hb); have n3_ := Aside0.mk (Kd.R_below (mRD15 HO318.out) hb); have n4_ := Aside0.mk (Kd.R_below (mRD15 HO323.out) hb); have n5_ := Aside0.mk (below_step qD150 hb); clear HO305; clear HO310; clear HO313; clear HO318; clear HO323; clear HB; have HO305 := n0_; have HO310 := n1_; have HO313 := n2_; have HO318 := n3_; have HO323 := n4_; have HB := n5_; clear n0_ n1_ n2_ n3_ n4_ n5_; (try clear hb); (try clear hb2); (try clear hk); (try clear hi)))
                   all_goals try (exfalso; have q_ : t316 = [] := List.length_eq_zero_iff.1 qD158; (first | exact absurd q_ (by assumption) | (simp_all; done)))
                   go_ret
                   exact ⟨qD154, qD150⟩
                 · replace c26 := Bool.eq_false_iff.mpr c26
                   subst c26
                   have H1 : (some false) = some r := by rw [if_neg (show ¬ (false = true) by decide)] at H; exact H
                   clear H; have H := H1; clear H1
                   exact absurd ((Option.some.inj H).trans hr_.out) (by decide)
               · rw [if_neg c23] at H
                 have c23b0 : (t306 == (rd t316 0)) = false := beq_eq_false_iff_ne.mpr c23; have c23b1 : (t306 != (rd t316 0)) = true := bne_iff_ne.mpr c23
                 exact absurd ((Option.some.inj H).trans hr_.out) (by decide)
             · rw [if_neg c22] at H
               exact absurd H (by simp)
           · replace c21 := Bool.eq_false_iff.mpr c21
             subst c21
             have H1 : (if t306 = 0 then ((rectoref31_Leaves.f kj2 t303 a1).bind fun t326 => ((rectoplain_Ints.f kj2 t311 t326).bind fun t329 => (if t329 = true then ((rectolaw31_four.f kj2).bind fun t330 => (some t330)) else (some false)))) else (some false)) = some r := by rw [if_neg (show ¬ (false = true) by decide)] at H; exact H
             clear H; have H := H1; clear H1
             by_cases c62 : t306 = 0
             · rw [if_pos c62] at H
               have c62b0 : (t306 == 0) = true := beq_iff_eq.mpr c62; have c62b1 : (t306 != 0) = false := bne_eq_false_iff_eq.mpr c62; clear c62; replace H := Option.bind_eq_some_iff.mp H; obtain ⟨t326, A630, H⟩ := H
               replace H : ((rectoplain_Ints.f kj2 t311 t326).bind fun t329 => (if t329 = true then ((rectolaw31_four.f kj2).bind fun t330 => (some t330)) else (some false))) = some r := H
               have A63 := Aside0.mk A630; clear A630; replace H := Option.bind_eq_some_iff.mp H; obtain ⟨t329, A640, H⟩ := H
               replace H : (if t329 = true then ((rectolaw31_four.f kj2).bind fun t330 => (some t330)) else (some false)) = some r := H
               have A64 := Aside0.mk A640; clear A640
               by_cases c65 : t329 = true
               · subst c65
                 have H1 : ((rectolaw31_four.f kj2).bind fun t330 => (some t330)) = some r := by rw [if_pos rfl] at H; exact H
                 clear H; have H := H1; clear H1; replace H := Option.bind_eq_some_iff.mp H; obtain ⟨t330, A660, H⟩ := H; replace H : (some t330) = some r := H; have A66 := Aside0.mk A660; clear A660; obtain rfl := Option.some.inj H
                 go_wp2_with (first | ((with_reducible refine gate_callee (f := 9) rfl ?_); refine goesL_ (some 20) rfl rfl Tryd.func9 (by kernel_rfl) rfl #[.slice A0 l0.length c0] rfl qD151 ?_; (with_reducible refine (rectolaw31_ref.calls kj2 (fun k_ => k_ < w.heap.size) _ _ l0 t303 _ ?side1 A11.out ?side2).mono ?_); (case side1 => exact qD1511); (case side2 => exact qD1510); rintro e w67 ⟨v304, rfl, ho0, hb⟩; refine ⟨_, rfl, ?_⟩; have n0_ := Aside0.mk (Kd.N_lower (Kd.N_mono (ok' := fun k_ => True) ho0 (fun k_ hk_ => trivial)) (below_size qD150)); have n1_ := Aside0.mk (below_step qD150 hb); clear HB; have HO305 := n0_; have HB := n1_; clear n0_ n1_; (try clear hb); (try clear hb2); (try clear hk); (try clear hi); (try clear ho0)) | ((with_reducible refine gate_callee (f := 10) rfl ?_); refine goesL_ (some 24) rfl rfl Tryd.func10 (by kernel_rfl) rfl #[.slice A0 l0.length c0, .string a1] rfl qD151 ?_; (with_reducible refine (dag_Head.calls kj2 _ _ l0 a1 t306 false _ ?side1 ?side2 A12.out ?side3).mono ?_); (case side1 => exact qD152); (case side2 => exact HC0.out); (case side3 => exact qD1510); rintro e w68 ⟨rfl, hb⟩; refine ⟨_, rfl, ?_⟩; have n0_ := Aside0.mk (Kd.N_below (mND15 HO305.out) hb); have n1_ := Aside0.mk (below_step qD150 hb); clear HO305; clear HB; have HO305 := n0_; have HB := n1_; clear n0_ n1_; (try clear hb); (try clear hb2); (try clear hk); (try clear hi)) | ((with_reducible refine gate_callee (f := 11) rfl ?_); refine goesL_ (some 29) rfl rfl Tryd.func11 (by kernel_rfl) rfl #[.slice A0 l0.length c0, .string a1] rfl qD151 ?_; (with_reducible refine (dag_History.calls kj2 _ _ l0 a1 t308 _ ?side1 ?side2 A13.out ?side3).mono ?_); (case side1 => exact qD152); (case side2 => exact HC0.out); (case side3 => exact qD1510); rintro e w69 ⟨v309, rfl, ho0, hb⟩; refine ⟨_, rfl, ?_⟩; have n0_ := Aside0.mk (Kd.N_elder' (mND15 HO305.out) (Kd.R_base ho0) hb); have n1_ := Aside0.mk (Kd.R_lower ho0 (below_size qD150)); have n2_ := Aside0.mk (below_step qD150 hb); clear HO305; clear HB; have HO305 := n0_; have HO310 := n1_; have HB := n2_; clear n0_ n1_ n2_; (try clear hb); (try clear hb2); (try clear hk); (try clear hi); (try clear ho0)) | ((with_reducible refine gate_callee (f := 12) rfl ?_); refine goesL_ (some 32) rfl rfl Tryd.func12 (by kernel_rfl) rfl #[.slice A0 l0.length c0, .string a1] rfl qD151 ?_; (with_reducible refine (dag_Leaves.calls kj2 _ _ l0 a1 t311 _ ?side1 ?side2 A14.out ?side3).mono ?_); (case side1 => exact qD152); (case side2 => exact HC0.out); (case side3 => exact qD1510); rintro e w70 ⟨v312, rfl, ho0, hb⟩; refine ⟨_, rfl, ?_⟩; have n0_ := Aside0.mk (Kd.N_elder' (mND15 HO305.out) (Kd.R_base ho0) hb); have n1_ := Aside0.mk (Kd.R_elder' (mRD15 HO310.out) (Kd.R_base ho0) hb); have n2_ := Aside0.mk (Kd.R_lower (Kd.R_new' ho0 (Kd.R_lt (mRD15 HO310.out))) (below_size qD150)); have n3_ := Aside0.mk (below_step qD150 hb); clear HO305; clear HO310; clear HB; have HO305 := n0_; have HO310 := n1_; have HO313 := n2_; have HB := n3_; clear n0_ n1_ n2_ n3_; (try clear hb); (try clear hb2); (try clear hk); (try clear hi); (try clear ho0); obtain ⟨Ao71, co71, eo71⟩ := Kd.N_slice HO305.out; subst eo71) | ((with_reducible refine gate_callee (f := 13) rfl ?_); refine goesL_ (some 34) rfl rfl Tryd.func13 (by kernel_rfl) rfl #[.slice Ao71 t303.length co71] rfl qD151 ?_; (with_reducible refine (rectoref31_Check.calls kj2 _ _ t303 t314 _ ?side1 ?side2 A15.out ?side3).mono ?_); (case side1 => exact qD153); (case side2 => exact qD159); (case side3 => exact qD1510); rintro e w72 ⟨rfl, hb⟩; refine ⟨_, rfl, ?_⟩; have n0_ := Aside0.mk (Kd.N_below (mND15 HO305.out) hb); have n1_ := Aside0.mk (Kd.R_below (mRD15 HO310.out) hb); have n2_ := Aside0.mk (Kd.R_below (mRD15 HO313.out) hb); have n3_ := Aside0.mk (below_step qD150 hb); clear HO305; clear HO310; clear HO313; clear HB; have HO305 := n0_; have HO310 := n1_; have HO313 := n2_; have HB := n3_; clear n0_ n1_ n2_ n3_; (try clear hb); (try clear hb2); (try clear hk); (try clear hi)) | ((with_reducible refine gate_callee (f := 14) rfl ?_); refine goesL_ (some 57) rfl rfl Tryd.func14 (by kernel_rfl) rfl #[.slice Ao71 t303.length co71, .string a1] rfl qD151 ?_; (with_reducible refine (rectoref31_History.calls kj2 _ _ t303 a1 t316 _ ?side1 ?side2 A17.out ?side3).mono ?_); (case side1 => exact qD153); (case side2 => exact qD159); (case side3 => exact qD1510); rintro e w73 ⟨v317, rfl, ho0, hb⟩; refine ⟨_, rfl, ?_⟩; have n0_ := Aside0.mk (Kd.N_elder' (mND15 HO305.out) (Kd.R_base ho0) hb); have n1_ := Aside0.mk (Kd.R_elder' (mRD15 HO310.out) (Kd.R_base ho0) hb); have n2_ := Aside0.mk (Kd.R_elder' (mRD15 HO313.out) (Kd.R_base ho0) hb); have n3_ := Aside0.mk (Kd.R_lower (Kd.R_new' (Kd.R_new' ho0 (Kd.R_lt (mRD15 HO310.out))) (Kd.R_lt (mRD15 HO313.out))) (below_size qD150)); have n4_ := Aside0.mk (below_step qD150 hb); clear HO305; clear HO310; clear HO313; clear HB; have HO305 := n0_; have HO310 := n1_; have HO313 := n2_; have HO318 := n3_; have HB := n4_; clear n0_ n1_ n2_ n3_ n4_; (try clear hb); (try clear hb2); (try clear hk); (try clear hi); (try clear ho0); obtain ⟨Ao74, co74, eo74⟩ := Kd.R_slice HO310.out; subst eo74; obtain ⟨Ao75, co75, eo75⟩ := Kd.R_slice HO318.out; subst eo75) | ((with_reducible refine gate_callee (f := 15) rfl ?_); refine goesL_ (some 60) rfl rfl Tryd.func15 (by kernel_rfl) rfl #[.slice Ao74 t308.length co74, .slice Ao75 t316.length co75] rfl qD151 ?_; (with_reducible refine (rectoplain_Ints.calls kj2 _ _ t308 _ _ t316 true _ ?side1 ?side2 ?side3 ?side4 A18.out ?side5).mono ?_); (case side1 => exact qD155); (case side2 => exact (Kd.R_reads' HO310.out).2.1); (case side3 => exact qD156); (case side4 => exact (Kd.R_reads' HO318.out).2.1); (case side5 => exact qD1510); rintro e w' ⟨rfl, ⟨nd, rfl⟩⟩; refine ⟨_, rfl, ?_⟩) | (go_at_call 16; (with_reducible refine (rectoref31_Leaves.calls kj2 _ _ t303 a1 t326 _ ?side1 ?side2 A63.out ?side3).mono ?_); (case side1 => exact qD153); (case side2 => exact qD159); (case side3 => exact qD1510); rintro e w76 ⟨v327, rfl, ho0, hb⟩; have n0_ := Aside0.mk (Kd.N_elder' (mND15 HO305.out) (Kd.R_base ho0) hb); have n1_ := Aside0.mk (Kd.R_elder' (mRD15 HO310.out) (Kd.R_base ho0) hb); have n2_ := Aside0.mk (Kd.R_elder' (mRD15 HO313.out) (Kd.R_base ho0) hb); have n3_ := Aside0.mk (Kd.R_elder' (mRD15 HO318.out) (Kd.R_base ho0) hb); have n4_ := Aside0.mk (Kd.R_lower (Kd.R_new' (Kd.R_new' (Kd.R_new' ho0 (Kd.R_lt (mRD15 HO310.out))) (Kd.R_lt (mRD15 HO313.out))) (Kd.R_lt (mRD15 HO318.out))) (below_size qD150)); have n5_ := Aside0.mk (below_step qD150 hb); clear HO305; clear HO310; clear HO313; clear HO318; clear HB; have HO305 := n0_; have HO310 := n1_; have HO313 := n2_; have HO318 := n3_; have HO328 := n4_; have HB := n5_; clear n0_ n1_ n2_ n3_ n4_ n5_; (try clear hb); (try clear hb2); (try clear hk); (try clear hi); (try clear ho0); obtain ⟨Ao77, co77, eo77⟩ := Kd.R_slice HO313.out; subst eo77; obtain ⟨Ao78, co78, eo78⟩ := Kd.R_slice HO328.out; subst eo78) | (go_at_call 15; (with_reducible refine (rectoplain_Ints.calls kj2 _ _ t311 _ _ t326 true _ ?side1 ?side2 ?side3 ?side4 A64.out ?side5).mono ?_); (case side1 => exact qD157); (case side2 => exact (Kd.R_reads' HO313.out).2.1); (case side3 => repeat (first | exact (Kd.R_reads' HO328.out).2.2 | (with_reducible refine Kd.C_alloc ?_ _) | (with_reducible refine Kd.C_drewN ?_ _) | (with_reducible refine Kd.C_drew ?_))); (case side4 => exact (Kd.R_reads' HO328.out).2.1); (case side5 => exact qD1510); rintro e w' ⟨rfl, ⟨nd, rfl⟩⟩) | (go_at_call 8; (with_reducible refine (rectolaw31_four.calls kj2  t330 _ A66.out ?side1).mono ?_); (case side1 => exact qD1510); rintro e w79 ⟨rfl, hb⟩; have n0_ := Aside0.mk (Kd.N_below (mND15 HO305.out) hb); have n1_ := Aside0.mk (Kd.R_below (mRD15 HO310.out) hb); have n2_ := Aside0.mk (Kd.R_below (mRD15 HO313.out) hb); have n3_ := Aside0.mk (Kd.R_below (mRD15 HO318.out) hb); have n4_ := Aside0.mk (Kd.R_below (mRD15 HO328.out) hb); have n5_ := Aside0.mk (below_step qD150 hb); clear HO305; clear HO310; clear HO313; clear HO318; clear HO328; clear HB; have HO305 := n0_; have HO310 := n1_; have HO313 := n2_; have HO318 := n3_; have HO328 := n4_; have HB := n5_; clear n0_ n1_ n2_ n3_ n4_ n5_; (try clear hb); (try clear hb2); (try clear hk); (try clear hi)))
                 all_goals try (exfalso; have q_ : t316 = [] := List.length_eq_zero_iff.1 qD158; (first | exact absurd q_ (by assumption) | (simp_all; done)))
                 go_ret
                 exact ⟨qD154, qD150⟩
               · replace c65 := Bool.eq_false_iff.mpr c65
                 subst c65
                 have H1 : (some false) = some r := by rw [if_neg (show ¬ (false = true) by decide)] at H; exact H
                 clear H; have H := H1; clear H1
                 exact absurd ((Option.some.inj H).trans hr_.out) (by decide)
             · rw [if_neg c62] at H
               have c62b0 : (t306 == 0) = false := beq_eq_false_iff_ne.mpr c62; have c62b1 : (t306 != 0) = true := bne_iff_ne.mpr c62
               exact absurd ((Option.some.inj H).trans hr_.out) (by decide)
         · rw [if_neg c20] at H
           have c20b0 : (t307 == (decide ((t316.length : Int) > 0))) = false := by simpa using c20
           have c20b5 : ¬ (t307 = decide (0 < t316.length)) := by rw [show decide (0 < t316.length) = decide ((t316.length : Int) > 0) from decide_eq_decide.2 (by omega)]; simpa using c20b0
           (try (have c20b1 : decide (t307 = (decide ((t316.length : Int) > 0))) = false := by simpa using c20))
           (try (have c20b2 : (t307 == (decide ((t316.length : Int) > 0))) = false := by simpa using c20))
           (try (have c20b3 : ¬ (t307 = (decide ((t316.length : Int) > 0))) := by simpa using c20))
           clear c20
           exact absurd ((Option.some.inj H).trans hr_.out) (by decide)
       · replace c19 := Bool.eq_false_iff.mpr c19
         subst c19
         have H1 : (some false) = some r := by rw [if_neg (show ¬ (false = true) by decide)] at H; exact H
         clear H; have H := H1; clear H1
         exact absurd ((Option.some.inj H).trans hr_.out) (by decide)
     · rw [if_neg c16] at H
       have c16b0 : (t314 == 0) = false := beq_eq_false_iff_ne.mpr c16; have c16b1 : (t314 != 0) = true := bne_iff_ne.mpr c16
       by_cases c119 : t307 = true
       · subst c119
         have H1 : (some false) = some r := by rw [if_pos rfl] at H; exact H
         clear H; have H := H1; clear H1
         exact absurd ((Option.some.inj H).trans hr_.out) (by decide)
       · replace c119 := Bool.eq_false_iff.mpr c119
         subst c119
         have H1 : (if t306 = 0 then (if (t308.length : Int) = 0 then (if (t311.length : Int) = 0 then ((rectolaw31_four.f kj2).bind fun t315 => (some t315)) else (some false)) else (some false)) else (some false)) = some r := by rw [if_neg (show ¬ (false = true) by decide)] at H; exact H
         clear H; have H := H1; clear H1
         by_cases c126 : t306 = 0
         · rw [if_pos c126] at H
           have c126b0 : (t306 == 0) = true := beq_iff_eq.mpr c126; have c126b1 : (t306 != 0) = false := bne_eq_false_iff_eq.mpr c126; clear c126
           by_cases c127 : (t308.length : Int) = 0
           · rw [if_pos c127] at H
             have c127b0 : ((t308.length : Int) == 0) = true := beq_iff_eq.mpr c127; have c127b1 : ((t308.length : Int) != 0) = false := bne_eq_false_iff_eq.mpr c127; clear c127
             by_cases c128 : (t311.length : Int) = 0
             · rw [if_pos c128] at H
               have c128b0 : ((t311.length : Int) == 0) = true := beq_iff_eq.mpr c128; have c128b1 : ((t311.length : Int) != 0) = false := bne_eq_false_iff_eq.mpr c128; clear c128; replace H := Option.bind_eq_some_iff.mp H; obtain ⟨t315, A1290, H⟩ := H; replace H : (some t315) = some r := H; have A129 := Aside0.mk A1290; clear A1290; obtain rfl := Option.some.inj H
               go_wp2_with (first | ((with_reducible refine gate_callee (f := 9) rfl ?_); refine goesL_ (some 20) rfl rfl Tryd.func9 (by kernel_rfl) rfl #[.slice A0 l0.length c0] rfl qD151 ?_; (with_reducible refine (rectolaw31_ref.calls kj2 (fun k_ => k_ < w.heap.size) _ _ l0 t303 _ ?side1 A11.out ?side2).mono ?_); (case side1 => exact qD1511); (case side2 => exact qD1510); rintro e w130 ⟨v304, rfl, ho0, hb⟩; refine ⟨_, rfl, ?_⟩; have n0_ := Aside0.mk (Kd.N_lower (Kd.N_mono (ok' := fun k_ => True) ho0 (fun k_ hk_ => trivial)) (below_size qD150)); have n1_ := Aside0.mk (below_step qD150 hb); clear HB; have HO305 := n0_; have HB := n1_; clear n0_ n1_; (try clear hb); (try clear hb2); (try clear hk); (try clear hi); (try clear ho0)) | ((with_reducible refine gate_callee (f := 10) rfl ?_); refine goesL_ (some 24) rfl rfl Tryd.func10 (by kernel_rfl) rfl #[.slice A0 l0.length c0, .string a1] rfl qD151 ?_; (with_reducible refine (dag_Head.calls kj2 _ _ l0 a1 t306 false _ ?side1 ?side2 A12.out ?side3).mono ?_); (case side1 => exact qD152); (case side2 => exact HC0.out); (case side3 => exact qD1510); rintro e w131 ⟨rfl, hb⟩; refine ⟨_, rfl, ?_⟩; have n0_ := Aside0.mk (Kd.N_below (mND15 HO305.out) hb); have n1_ := Aside0.mk (below_step qD150 hb); clear HO305; clear HB; have HO305 := n0_; have HB := n1_; clear n0_ n1_; (try clear hb); (try clear hb2); (try clear hk); (try clear hi)) | ((with_reducible refine gate_callee (f := 11) rfl ?_); refine goesL_ (some 29) rfl rfl Tryd.func11 (by kernel_rfl) rfl #[.slice A0 l0.length c0, .string a1] rfl qD151 ?_; (with_reducible refine (dag_History.calls kj2 _ _ l0 a1 t308 _ ?side1 ?side2 A13.out ?side3).mono ?_); (case side1 => exact qD152); (case side2 => exact HC0.out); (case side3 => exact qD1510); rintro e w132 ⟨v309, rfl, ho0, hb⟩; refine ⟨_, rfl, ?_⟩; have n0_ := Aside0.mk (Kd.N_elder' (mND15 HO305.out) (Kd.R_base ho0) hb); have n1_ := Aside0.mk (Kd.R_lower ho0 (below_size qD150)); have n2_ := Aside0.mk (below_step qD150 hb); clear HO305; clear HB; have HO305 := n0_; have HO310 := n1_; have HB := n2_; clear n0_ n1_ n2_; (try clear hb); (try clear hb2); (try clear hk); (try clear hi); (try clear ho0)) | ((with_reducible refine gate_callee (f := 12) rfl ?_); refine goesL_ (some 32) rfl rfl Tryd.func12 (by kernel_rfl) rfl #[.slice A0 l0.length c0, .string a1] rfl qD151 ?_; (with_reducible refine (dag_Leaves.calls kj2 _ _ l0 a1 t311 _ ?side1 ?side2 A14.out ?side3).mono ?_); (case side1 => exact qD152); (case side2 => exact HC0.out); (case side3 => exact qD1510); rintro e w133 ⟨v312, rfl, ho0, hb⟩; refine ⟨_, rfl, ?_⟩; have n0_ := Aside0.mk (Kd.N_elder' (mND15 HO305.out) (Kd.R_base ho0) hb); have n1_ := Aside0.mk (Kd.R_elder' (mRD15 HO310.out) (Kd.R_base ho0) hb); have n2_ := Aside0.mk (Kd.R_lower (Kd.R_new' ho0 (Kd.R_lt (mRD15 HO310.out))) (below_size qD150)); have n3_ := Aside0.mk (below_step qD150 hb); clear HO305; clear HO310; clear HB; have HO305 := n0_; have HO310 := n1_; have HO313 := n2_; have HB := n3_; clear n0_ n1_ n2_ n3_; (try clear hb); (try clear hb2); (try clear hk); (try clear hi); (try clear ho0); obtain ⟨Ao134, co134, eo134⟩ := Kd.N_slice HO305.out; subst eo134) | ((with_reducible refine gate_callee (f := 13) rfl ?_); refine goesL_ (some 34) rfl rfl Tryd.func13 (by kernel_rfl) rfl #[.slice Ao134 t303.length co134] rfl qD151 ?_; (with_reducible refine (rectoref31_Check.calls kj2 _ _ t303 t314 _ ?side1 ?side2 A15.out ?side3).mono ?_); (case side1 => exact qD153); (case side2 => exact qD159); (case side3 => exact qD1510); rintro e w135 ⟨rfl, hb⟩; refine ⟨_, rfl, ?_⟩; have n0_ := Aside0.mk (Kd.N_below (mND15 HO305.out) hb); have n1_ := Aside0.mk (Kd.R_below (mRD15 HO310.out) hb); have n2_ := Aside0.mk (Kd.R_below (mRD15 HO313.out) hb); have n3_ := Aside0.mk (below_step qD150 hb); clear HO305; clear HO310; clear HO313; clear HB; have HO305 := n0_; have HO310 := n1_; have HO313 := n2_; have HB := n3_; clear n0_ n1_ n2_ n3_; (try clear hb); (try clear hb2); (try clear hk); (try clear hi); obtain ⟨Ao136, co136, eo136⟩ := Kd.R_slice HO310.out; subst eo136; obtain ⟨Ao137, co137, eo137⟩ := Kd.R_slice HO313.out; subst eo137) | (go_at_call 8; (with_reducible refine (rectolaw31_four.calls kj2  t315 _ A129.out ?side1).mono ?_); (case side1 => exact qD1510); rintro e w138 ⟨rfl, hb⟩; have n0_ := Aside0.mk (Kd.N_below (mND15 HO305.out) hb); have n1_ := Aside0.mk (Kd.R_below (mRD15 HO310.out) hb); have n2_ := Aside0.mk (Kd.R_below (mRD15 HO313.out) hb); have n3_ := Aside0.mk (below_step qD150 hb); clear HO305; clear HO310; clear HO313; clear HB; have HO305 := n0_; have HO310 := n1_; have HO313 := n2_; have HB := n3_; clear n0_ n1_ n2_ n3_; (try clear hb); (try clear hb2); (try clear hk); (try clear hi)))
               go_ret
               exact ⟨qD154, qD150⟩
             · rw [if_neg c128] at H
               have c128b0 : ((t311.length : Int) == 0) = false := beq_eq_false_iff_ne.mpr c128; have c128b1 : ((t311.length : Int) != 0) = true := bne_iff_ne.mpr c128
               have c128b2 : ¬ (t311 = []) := fun h_ => c128 (by rw [h_]; rfl)
               exact absurd ((Option.some.inj H).trans hr_.out) (by decide)
           · rw [if_neg c127] at H
             have c127b0 : ((t308.length : Int) == 0) = false := beq_eq_false_iff_ne.mpr c127; have c127b1 : ((t308.length : Int) != 0) = true := bne_iff_ne.mpr c127
             have c127b2 : ¬ (t308 = []) := fun h_ => c127 (by rw [h_]; rfl)
             exact absurd ((Option.some.inj H).trans hr_.out) (by decide)
         · rw [if_neg c126] at H
           have c126b0 : (t306 == 0) = false := beq_eq_false_iff_ne.mpr c126; have c126b1 : (t306 != 0) = true := bne_iff_ne.mpr c126
           exact absurd ((Option.some.inj H).trans hr_.out) (by decide)
theorem rectolaw31_DagPages.calls (k : Nat) (A0 : Option Addr) (c0 : Nat) (l0 : List (S43)) (a1 : ByteArray) (r : Bool) (w : World) (hr0 : Kd.C k43 w A0 l0.length l0) (hc0 : l0.length ≤ c0) (h : rectolaw31_DagPages.f k l0 a1 = some r) (HG : Aside0 (Laid w)) (hr_ : r = true := by rfl) :
 Calls Tryd.prog 3 #[.slice A0 l0.length c0, .string a1] w fun e w' => e = .returned (.bool r) ∧ Below w.heap.size w w' :=
 rectolaw31_DagPages.calls_true k A0 c0 l0 a1 r w hr0 hc0 h HG ⟨hr_⟩

end Go.Proofs.YtgopimjfoppkmaaDoor.D
