/- Printed functions, each with a proof that the call answers so. -/
import Derived.Test.YtgopimjfoppkmaaDoorD0
import Derived.Test.YtgopimjfoppkmaaDoorDHist
namespace Go.Proofs.YtgopimjfoppkmaaDoor.D
open Go.RowKit Go.Proofs.YtgopimjfoppkmaaDoorW.PrintWords Go.Proofs.YtgopimjfoppkmaaDoorW.PrintLast Go.Proofs.YtgopimjfoppkmaaDoorW.PrintMore
attribute [local go_sem] max2_int min2_int max_two min_two max_three min_three max_four min_four   -- for this text's walks alone
set_option linter.unusedVariables false
set_option linter.unusedSimpArgs false

-- by hand: recto/dag.History

theorem qD70 {p : Prop} (h : p := by repeat (first | (with_reducible first | exact HB.out | apply below_alloc | apply pw_below_drewN | apply below_drew1) | exact HB.out)) : p := h
theorem qD71 {p : Prop} (h : p := by repeat (first | exact HR0.out | (with_reducible refine Kd.C_alloc ?_ _) | (with_reducible refine Kd.C_drewN ?_ _) | (with_reducible refine Kd.C_drew ?_))) : p := h
theorem qD72 {p : Prop} (h : p := by (try simp only [List.map_toArray, List.map_cons, List.map_nil]); first | done | rfl | (simp only [List.length_drop, List.length_take]; rfl)) : p := h
/-! ### dag_Head: function 10 -/
def dag_Head.f (k : Nat) (l0 : List (S43)) (a1 : ByteArray) : Option (Int × Bool) := (dag_History.f k l0 a1).bind fun t131 => (if (t131.length : Int) = 0 then (some (0, false)) else (if 0 < (t131.length : Int) then (some (rd t131 0, true)) else (none)))
theorem dag_Head.mono : ∀ a0 a1 k, LeO (dag_Head.f k a0 a1) (dag_Head.f (k + 1) a0 a1) := by
 intro a0 a1 k
 unfold dag_Head.f
 repeat' first
  | (with_reducible exact dag_History.mono _ _ _)
  | (with_reducible exact LeO.refl _)
  | (with_reducible exact LeO.none _)
  | (with_reducible refine LeO.ite ?_ ?_)
  | (with_reducible refine LeO.bind ?_ (fun _ => ?_))
  | exact dag_History.mono _ _ _
  | exact LeO.none _
  | refine LeO.ite ?_ ?_
  | refine LeO.bind ?_ (fun _ => ?_)
set_option maxHeartbeats 8000000 in
set_option maxRecDepth 100000 in
theorem dag_Head.calls (k : Nat) (A0 : Option Addr) (c0 : Nat) (l0 : List (S43)) (a1 : ByteArray) (r1 : Int) (r2 : Bool) (w : World) (hr0 : Kd.C k43 w A0 l0.length l0) (hc0 : l0.length ≤ c0) (h : dag_Head.f k l0 a1 = some (r1, r2)) (HG : Aside0 (Laid w)) :
 Calls Tryd.prog 10 #[.slice A0 l0.length c0, .string a1] w fun e w' => e = .returned (.tuple #[.int .i64 r1, .bool r2]) ∧ Below w.heap.size w w' := by
 have HR0 := Aside0.mk hr0; have HC0 := Aside0.mk hc0; clear hr0 hc0; have HB := Aside0.mk (Below.refl w.heap.size w)
 have H : ((dag_History.f k l0 a1).bind fun t131 => (if (t131.length : Int) = 0 then (some (0, false)) else (if 0 < (t131.length : Int) then (some (rd t131 0, true)) else (none)))) = some (r1, r2) := h
 clear h; replace H := Option.bind_eq_some_iff.mp H; obtain ⟨t131, A30, H⟩ := H
 replace H : (if (t131.length : Int) = 0 then (some (0, false)) else (if 0 < (t131.length : Int) then (some (rd t131 0, true)) else (none))) = some (r1, r2) := H
 have A3 := Aside0.mk A30; clear A30
 by_cases c4 : (t131.length : Int) = 0
 · rw [if_pos c4] at H
   have c4b0 : ((t131.length : Int) == 0) = true := beq_iff_eq.mpr c4; have c4b1 : ((t131.length : Int) != 0) = false := bne_eq_false_iff_eq.mpr c4; clear c4; simp only [Option.some.injEq, Prod.mk.injEq] at H; obtain ⟨rfl, rfl⟩ := H
   go_enter Tryd.func10, Tryd.ntmps10
   go_wp2_with (first | ((with_reducible refine gate_callee (f := 11) rfl ?_); refine goesL_ (some 9) rfl rfl Tryd.func11 (by kernel_rfl) rfl #[.slice A0 l0.length c0, .string a1] rfl qD72 ?_; (with_reducible refine (dag_History.calls k _ _ l0 a1 t131 _ ?side1 ?side2 A3.out ?side3).mono ?_); (case side1 => exact qD71); (case side2 => exact HC0.out); (case side3 => exact Aside0.mk (Laid.below HG.out qD70)); rintro e w5 ⟨v132, rfl, ho0, hb⟩; refine ⟨_, rfl, ?_⟩; have n0_ := Aside0.mk (Kd.R_lower ho0 (below_size qD70)); have n1_ := Aside0.mk (below_step qD70 hb); clear HB; have HO133 := n0_; have HB := n1_; clear n0_ n1_; (try clear hb); (try clear hb2); (try clear hk); (try clear hi); (try clear ho0); obtain ⟨Ao6, co6, eo6⟩ := Kd.R_slice HO133.out; subst eo6))
   go_ret2
   exact ⟨by first | rfl | (simp [errW_none, errW_some] <;> rfl) | (simp [*, errW_none, errW_some] <;> rfl), qD70⟩
 · rw [if_neg c4] at H
   have c4b0 : ((t131.length : Int) == 0) = false := beq_eq_false_iff_ne.mpr c4; have c4b1 : ((t131.length : Int) != 0) = true := bne_iff_ne.mpr c4
   have c4b2 : ¬ (t131 = []) := fun h_ => c4 (by rw [h_]; rfl)
   by_cases c7 : 0 < (t131.length : Int)
   · rw [if_pos c7] at H
     have c7b0 : decide (0 < (t131.length : Int)) = true := decide_eq_true c7; have c7b1 : decide (0 < t131.length) = true := decide_eq_true (by omega); clear c7; simp only [Option.some.injEq, Prod.mk.injEq] at H; obtain ⟨rfl, rfl⟩ := H
     go_enter Tryd.func10, Tryd.ntmps10
     go_wp2_with (first | ((with_reducible refine gate_callee (f := 11) rfl ?_); refine goesL_ (some 9) rfl rfl Tryd.func11 (by kernel_rfl) rfl #[.slice A0 l0.length c0, .string a1] rfl qD72 ?_; (with_reducible refine (dag_History.calls k _ _ l0 a1 t131 _ ?side1 ?side2 A3.out ?side3).mono ?_); (case side1 => exact qD71); (case side2 => exact HC0.out); (case side3 => exact Aside0.mk (Laid.below HG.out qD70)); rintro e w8 ⟨v132, rfl, ho0, hb⟩; refine ⟨_, rfl, ?_⟩; have n0_ := Aside0.mk (Kd.R_lower ho0 (below_size qD70)); have n1_ := Aside0.mk (below_step qD70 hb); clear HB; have HO133 := n0_; have HB := n1_; clear n0_ n1_; (try clear hb); (try clear hb2); (try clear hk); (try clear hi); (try clear ho0); obtain ⟨Ao9, co9, eo9⟩ := Kd.R_slice HO133.out; subst eo9; have p134 : 0 ≤ (0 : Int) := (by omega); have q134 : 0 < (t131.length : Int) := of_decide_eq_true (by first | (with_reducible assumption) | assumption); obtain ⟨ad134, e134, hx134_0⟩ := Kd.at_int (Kd.R_reads' HO133.out).2.2 0 p134 q134; cases e134; have qi134 : (0 < t131.length) = True := eq_true (by omega); (try rw [show ((0 : Int)).toNat = 0 from rfl] at hx134_0); (try rw [Addr.add_zero'] at hx134_0); replace p134 := eq_true p134; replace q134 := eq_true q134))
     go_ret2
     exact ⟨by first | rfl | (simp [errW_none, errW_some] <;> rfl) | (simp [*, errW_none, errW_some] <;> rfl), qD70⟩
   · rw [if_neg c7] at H
     exact absurd H (by simp)

end Go.Proofs.YtgopimjfoppkmaaDoor.D
