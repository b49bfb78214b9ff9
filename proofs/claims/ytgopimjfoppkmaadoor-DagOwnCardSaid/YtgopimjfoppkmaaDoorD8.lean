/- Printed functions, each with a proof that the call answers so. -/
import Derived.Test.YtgopimjfoppkmaaDoorD0
import Derived.Test.YtgopimjfoppkmaaDoorD6
namespace Go.Proofs.YtgopimjfoppkmaaDoor.D
open Go.RowKit Go.Proofs.YtgopimjfoppkmaaDoorW.PrintWords Go.Proofs.YtgopimjfoppkmaaDoorW.PrintLast Go.Proofs.YtgopimjfoppkmaaDoorW.PrintMore
attribute [local go_sem] max2_int min2_int max_two min_two max_three min_three max_four min_four   -- for this text's walks alone
set_option linter.unusedVariables false
set_option linter.unusedSimpArgs false

-- by hand: recto/dag.Leaves

theorem qD80 {p : Prop} (h : p := by repeat (first | (with_reducible first | exact HB.out | apply below_alloc | apply pw_below_drewN | apply below_drew1) | exact HB.out)) : p := h
theorem qD81 {p : Prop} (h : p := by first | (with_reducible assumption) | assumption) : p := h
theorem qD82 {p : Prop} (h : p := by first | rfl | (simp [errW_none, errW_some] <;> rfl) | (simp [*, errW_none, errW_some] <;> rfl)) : p := h
theorem qD83 {p : Prop} (h : p := by repeat (first | exact Drawn0.refl _ | apply Drawn0.step)) : p := h
theorem qD84 {p : Prop} (h : p := by first | rfl | (simp; done) | (simp [*]; done)) : p := h
/-! ### rectoplain_Ints: function 15 -/
def rectoplain_Ints.l0 : Nat → List Int → List Int → Int → Int → Option (Bool)
 | 0, _, _, _, _ => none
 | k + 1, x0, x1, x7, x8 => if x8 < x7 then (if x8 ≥ (x1.length : Int) then (some false) else (if 0 ≤ x8 then (if x8 < (x0.length : Int) then (if x8 < (x1.length : Int) then (if (rd x0 x8) = (rd x1 x8) then (rectoplain_Ints.l0 k x0 x1 x7 (wrap64 (x8 + 1))) else (some false)) else (none)) else (none)) else (none))) else (some ((x0.length : Int) == (x1.length : Int)))
def rectoplain_Ints.f (k : Nat) (l0 : List Int) (l1 : List Int) : Option (Bool) := rectoplain_Ints.l0 k l0 l1 (l0.length : Int) 0
theorem rectoplain_Ints.mono_l : ∀ k, (∀ y0 y1 y2 y3, LeO (rectoplain_Ints.l0 k y0 y1 y2 y3) (rectoplain_Ints.l0 (k + 1) y0 y1 y2 y3))
 | 0 => fun _ _ _ _ r h => by simp [rectoplain_Ints.l0] at h
 | k + 1 => by
  have ih0 := rectoplain_Ints.mono_l k
  · intro y0 y1 y2 y3
    unfold rectoplain_Ints.l0
    repeat' first
    | (with_reducible exact ih0 _ _ _ _)
    | (with_reducible exact LeO.refl _)
    | (with_reducible exact LeO.none _)
    | (with_reducible refine LeO.ite ?_ ?_)
    | (with_reducible refine LeO.bind ?_ (fun _ => ?_))
    | exact ih0 _ _ _ _
    | exact LeO.none _
    | refine LeO.ite ?_ ?_
    | refine LeO.bind ?_ (fun _ => ?_)
theorem rectoplain_Ints.mono : ∀ a0 a1 k, LeO (rectoplain_Ints.f k a0 a1) (rectoplain_Ints.f (k + 1) a0 a1) := by
 intro a0 a1 k
 have ih0 := rectoplain_Ints.mono_l k; unfold rectoplain_Ints.f
 repeat' first
  | (with_reducible exact ih0 _ _ _ _)
  | (with_reducible exact LeO.refl _)
  | (with_reducible exact LeO.none _)
  | (with_reducible refine LeO.ite ?_ ?_)
  | (with_reducible refine LeO.bind ?_ (fun _ => ?_))
  | exact ih0 _ _ _ _
  | exact LeO.none _
  | refine LeO.ite ?_ ?_
  | refine LeO.bind ?_ (fun _ => ?_)
set_option maxHeartbeats 8000000 in
set_option maxRecDepth 100000 in
theorem rectoplain_Ints.calls (k : Nat) (A0 : Option Addr) (c0 : Nat) (l0 : List Int) (A1 : Option Addr) (c1 : Nat) (l1 : List Int) (r : Bool) (w : World) (hr0 : Kd.C (Kd.int .i64) w A0 l0.length l0) (hc0 : l0.length ≤ c0) (hr1 : Kd.C (Kd.int .i64) w A1 l1.length l1) (hc1 : l1.length ≤ c1) (h : rectoplain_Ints.f k l0 l1 = some r) (HG : Aside0 (Laid w)) :
 Calls Tryd.prog 15 #[.slice A0 l0.length c0, .slice A1 l1.length c1] w fun e w' => e = .returned (.bool r) ∧ Drawn0 w w' := by
 have HR0 := Aside0.mk hr0; have HC0 := Aside0.mk hc0; clear hr0 hc0; have HR1 := Aside0.mk hr1; have HC1 := Aside0.mk hc1; clear hr1 hc1; have H : (rectoplain_Ints.l0 k l0 l1 (l0.length : Int) 0) = some r := h; clear h; have H' := Aside0.mk H; clear H
 go_enter Tryd.func15, Tryd.ntmps15
 go_wp2
 repeat (go_quiet (fail); try go_wp2)
 go_loopg [8] k (fun kq v8 w' => ∃ (x8_1 : Int), v8 = .int .i64 x8_1 ∧ Aside0 (rectoplain_Ints.l0 kq l0 l1 (l0.length : Int) x8_1 = some r) ∧ Aside0 (kq ≤ k) ∧ Drawn0 w w')
 case atStart => exact ⟨(0), qD84, H', ⟨Nat.le_refl _⟩, qD83⟩
 case round =>
  clear H'; (try clear c1); (try clear p2); obtain ⟨x8_1, rfl, HA, HK1, ⟨m1, rfl⟩⟩ := hrel
  cases gk with
  | zero => exact absurd HA.out (by simp [rectoplain_Ints.l0])
  | succ k1 =>
   have H := HA.out; clear HA; simp only [rectoplain_Ints.l0] at H
   by_cases c3 : x8_1 < (l0.length : Int)
   · rw [if_pos c3] at H
     have c3b0 : decide (x8_1 < (l0.length : Int)) = true := decide_eq_true c3; clear c3
     by_cases c4 : x8_1 ≥ (l1.length : Int)
     · rw [if_pos c4] at H
       have c4b0 : decide ((l1.length : Int) ≤ x8_1) = true := decide_eq_true c4; clear c4; obtain rfl := Option.some.inj H
       go_wp2
       repeat (go_quiet (fail); try go_wp2)
       go_ret
       exact ⟨qD84, qD83⟩
     · rw [if_neg c4] at H
       have c4b0 : decide ((l1.length : Int) ≤ x8_1) = false := decide_eq_false c4; clear c4
       by_cases c5 : 0 ≤ x8_1
       · rw [if_pos c5] at H
         have c5b0 : decide (0 ≤ x8_1) = true := decide_eq_true c5; clear c5
         by_cases c6 : x8_1 < (l0.length : Int)
         · rw [if_pos c6] at H
           have c6b0 : decide (x8_1 < (l0.length : Int)) = true := decide_eq_true c6; clear c6
           by_cases c7 : x8_1 < (l1.length : Int)
           · rw [if_pos c7] at H
             have c7b0 : decide (x8_1 < (l1.length : Int)) = true := decide_eq_true c7; clear c7
             by_cases c8 : (rd l0 x8_1) = (rd l1 x8_1)
             · rw [if_pos c8] at H
               have c8b0 : ((rd l0 x8_1) == (rd l1 x8_1)) = true := beq_iff_eq.mpr c8; have c8b1 : ((rd l0 x8_1) != (rd l1 x8_1)) = false := bne_eq_false_iff_eq.mpr c8; clear c8; have H' := Aside0.mk H; clear H; have p135 : 0 ≤ (x8_1 : Int) := of_decide_eq_true qD81; have q135 : x8_1 < (l0.length : Int) := of_decide_eq_true qD81; obtain ⟨ad135, e135, hx135_0⟩ := Kd.at_int HR0.out x8_1 p135 q135; cases e135; replace p135 := eq_true p135; replace q135 := eq_true q135; have p136 : 0 ≤ (x8_1 : Int) := of_decide_eq_true qD81; have q136 : x8_1 < (l1.length : Int) := of_decide_eq_true qD81; obtain ⟨ad136, e136, hx136_0⟩ := Kd.at_int HR1.out x8_1 p136 q136; cases e136; replace p136 := eq_true p136; replace q136 := eq_true q136
               go_wp2
               repeat (go_quiet (fail); try go_wp2)
               go_roundg k1
               case measure => have := HK1.out; omega
               case rel => exact ⟨(wrap64 (x8_1 + 1)), qD84, H', ⟨by have := HK1.out; omega⟩, qD83⟩
             · rw [if_neg c8] at H
               have c8b0 : ((rd l0 x8_1) == (rd l1 x8_1)) = false := beq_eq_false_iff_ne.mpr c8; have c8b1 : ((rd l0 x8_1) != (rd l1 x8_1)) = true := bne_iff_ne.mpr c8; obtain rfl := Option.some.inj H; have p135 : 0 ≤ (x8_1 : Int) := of_decide_eq_true qD81; have q135 : x8_1 < (l0.length : Int) := of_decide_eq_true qD81; obtain ⟨ad135, e135, hx135_0⟩ := Kd.at_int HR0.out x8_1 p135 q135; cases e135; replace p135 := eq_true p135; replace q135 := eq_true q135; have p136 : 0 ≤ (x8_1 : Int) := of_decide_eq_true qD81; have q136 : x8_1 < (l1.length : Int) := of_decide_eq_true qD81; obtain ⟨ad136, e136, hx136_0⟩ := Kd.at_int HR1.out x8_1 p136 q136; cases e136; replace p136 := eq_true p136; replace q136 := eq_true q136
               go_wp2
               repeat (go_quiet (fail); try go_wp2)
               go_ret
               exact ⟨qD84, qD83⟩
           · rw [if_neg c7] at H
             exact absurd H (by simp)
         · rw [if_neg c6] at H
           exact absurd H (by simp)
       · rw [if_neg c5] at H
         exact absurd H (by simp)
   · rw [if_neg c3] at H
     have c3b0 : decide (x8_1 < (l0.length : Int)) = false := decide_eq_false c3; clear c3; obtain rfl := Option.some.inj H
     go_wp2
     repeat (go_quiet (fail); try go_wp2)
     go_ret
     exact ⟨qD84, qD83⟩

/-! ### dag_in: function 33 -/
def dag_in.f (k : Nat) (l0 : List (S43)) (a1 : Int) : Option (Bool) := if a1 ≥ 1 then (if a1 ≤ (l0.length : Int) then ((dag_Check.f k l0).bind fun t137 => (some (t137 == 0))) else (some false)) else (some false)
theorem dag_in.mono : ∀ a0 a1 k, LeO (dag_in.f k a0 a1) (dag_in.f (k + 1) a0 a1) := by
 intro a0 a1 k
 unfold dag_in.f
 repeat' first
  | (with_reducible exact dag_Check.mono _ _)
  | (with_reducible exact LeO.refl _)
  | (with_reducible exact LeO.none _)
  | (with_reducible refine LeO.ite ?_ ?_)
  | (with_reducible refine LeO.bind ?_ (fun _ => ?_))
  | exact dag_Check.mono _ _
  | exact LeO.none _
  | refine LeO.ite ?_ ?_
  | refine LeO.bind ?_ (fun _ => ?_)
set_option maxHeartbeats 8000000 in
set_option maxRecDepth 100000 in
theorem dag_in.calls (k : Nat) (A0 : Option Addr) (c0 : Nat) (l0 : List (S43)) (a1 : Int) (r : Bool) (w : World) (hr0 : Kd.C k43 w A0 l0.length l0) (hc0 : l0.length ≤ c0) (h : dag_in.f k l0 a1 = some r) (HG : Aside0 (Laid w)) :
 Calls Tryd.prog 33 #[.slice A0 l0.length c0, .int .i64 a1] w fun e w' => e = .returned (.bool r) ∧ Below w.heap.size w w' := by
 have HR0 := Aside0.mk hr0; have HC0 := Aside0.mk hc0; clear hr0 hc0; have HB := Aside0.mk (Below.refl w.heap.size w)
 have H : (if a1 ≥ 1 then (if a1 ≤ (l0.length : Int) then ((dag_Check.f k l0).bind fun t137 => (some (t137 == 0))) else (some false)) else (some false)) = some r := h
 clear h
 by_cases c3 : a1 ≥ 1
 · rw [if_pos c3] at H
   have c3b0 : decide (1 ≤ a1) = true := decide_eq_true c3; clear c3
   by_cases c4 : a1 ≤ (l0.length : Int)
   · rw [if_pos c4] at H
     have c4b0 : decide (a1 ≤ (l0.length : Int)) = true := decide_eq_true c4; clear c4; replace H := Option.bind_eq_some_iff.mp H; obtain ⟨t137, A50, H⟩ := H; replace H : (some (t137 == 0)) = some r := H; have A5 := Aside0.mk A50; clear A50; obtain rfl := Option.some.inj H
     go_enter Tryd.func33, Tryd.ntmps33
     go_wp2_with (first | (go_at_call 21; (with_reducible refine (dag_Check.calls k _ _ l0 t137 _ ?side1 ?side2 A5.out ?side3).mono ?_); (case side1 => repeat (first | exact HR0.out | (with_reducible refine Kd.C_alloc ?_ _) | (with_reducible refine Kd.C_drewN ?_ _) | (with_reducible refine Kd.C_drew ?_))); (case side2 => exact HC0.out); (case side3 => exact Aside0.mk (Laid.below HG.out qD80)); rintro e w6 ⟨rfl, hb⟩; have n0_ := Aside0.mk (below_step qD80 hb); clear HB; have HB := n0_; clear n0_; (try clear hb); (try clear hb2); (try clear hk); (try clear hi)))
     go_ret
     exact ⟨qD82, qD80⟩
   · rw [if_neg c4] at H
     have c4b0 : decide (a1 ≤ (l0.length : Int)) = false := decide_eq_false c4; clear c4; obtain rfl := Option.some.inj H
     go_enter Tryd.func33, Tryd.ntmps33
     go_wp2
     go_ret
     exact ⟨qD82, qD80⟩
 · rw [if_neg c3] at H
   have c3b0 : decide (1 ≤ a1) = false := decide_eq_false c3; clear c3; obtain rfl := Option.some.inj H
   go_enter Tryd.func33, Tryd.ntmps33
   go_wp2
   go_ret
   exact ⟨qD82, qD80⟩

end Go.Proofs.YtgopimjfoppkmaaDoor.D
