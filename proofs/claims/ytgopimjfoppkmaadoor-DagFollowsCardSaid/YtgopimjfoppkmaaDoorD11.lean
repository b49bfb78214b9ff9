/- Printed functions, each with a proof that the call answers so. -/
import Derived.Test.YtgopimjfoppkmaaDoorD0
import Derived.Test.YtgopimjfoppkmaaDoorD6
import Derived.Test.YtgopimjfoppkmaaDoorD7
import Derived.Test.YtgopimjfoppkmaaDoorD8
import Derived.Test.YtgopimjfoppkmaaDoorD9
import Derived.Test.YtgopimjfoppkmaaDoorD10
import Derived.Test.YtgopimjfoppkmaaDoorDLeaves
namespace Go.Proofs.YtgopimjfoppkmaaDoor.D
open Go.RowKit Go.Proofs.YtgopimjfoppkmaaDoorW.PrintWords Go.Proofs.YtgopimjfoppkmaaDoorW.PrintLast Go.Proofs.YtgopimjfoppkmaaDoorW.PrintMore
attribute [local go_sem] max2_int min2_int max_two min_two max_three min_three max_four min_four   -- for this text's walks alone
set_option linter.unusedVariables false
set_option linter.unusedSimpArgs false

theorem mRD11 {p q : Prop} (x : q) (h : q → p := by intro x_; (with_reducible repeat (first | apply Kd.R_alloc | apply Kd.R_drewN | apply Kd.R_drew)); exact x_) : p := h x
theorem mND11 {p q : Prop} (x : q) (h : q → p := by intro x_; (with_reducible repeat (first | apply Kd.N_alloc | apply Kd.N_drewN | apply Kd.N_drew)); exact x_) : p := h x
theorem qD110 {p : Prop} (h : p := by repeat (first | (with_reducible first | exact HB.out | apply below_alloc | apply pw_below_drewN | apply below_drew1) | exact HB.out)) : p := h
theorem qD111 {p : Prop} (h : p := by (try simp only [List.map_toArray, List.map_cons, List.map_nil]); first | done | rfl | (simp only [List.length_drop, List.length_take]; rfl)) : p := h
theorem qD112 {p : Prop} (h : p := by repeat (first | exact (Kd.N_reads' HO207.out).2.2 | (with_reducible refine Kd.C_alloc ?_ _) | (with_reducible refine Kd.C_drewN ?_ _) | (with_reducible refine Kd.C_drew ?_))) : p := h
theorem qD113 {p : Prop} (h : p := by repeat (first | exact (Kd.N_reads' HO215.out).2.2 | (with_reducible refine Kd.C_alloc ?_ _) | (with_reducible refine Kd.C_drewN ?_ _) | (with_reducible refine Kd.C_drew ?_))) : p := h
theorem qD114 {p : Prop} (h : p := by exact (Reps.one (show Kd.M (Kd.int .i64) _ _ _ 2 [.int .i64 2] from rfl) (Reps.one (show Kd.M (Kd.int .i64) _ _ _ 3 [.int .i64 3] from rfl) (Reps.none _ _)))) : p := h
theorem qD115 {p : Prop} (h : p := by first | (go_simp; done) | (go_simp; rfl)) : p := h
theorem qD116 {p : Prop} (h : p := by repeat (first | exact Drawn0.refl _ | apply Drawn0.step)) : p := h
theorem qD117 {p : Prop} (h : p := by first | (with_reducible assumption) | assumption) : p := h
theorem qD118 {p : Prop} (h : p := by first | rfl | (simp; done) | (simp [*]; done)) : p := h
theorem qD119 {p : Prop} (h : p := by exact Aside0.mk (Laid.below HG.out qD110)) : p := h
/-! ### rectolaw31_four: function 8 -/
def rectolaw31_four.f (k : Nat)  : Option (Bool) := (some (([(⟨1, (⟨#[112]⟩ : ByteArray), 1, ([] : List Int)⟩ : S43), (⟨2, (⟨#[112]⟩ : ByteArray), 1, (([1] : List Int))⟩ : S43), (⟨3, (⟨#[112]⟩ : ByteArray), 1, (([1] : List Int))⟩ : S43)] : List (S43)) : List (S43))).bind fun y205 => ((dag_Base.f k y205 2 3).bind fun bt208 => ((dag_Add.f k y205 0 (⟨#[112]⟩ : ByteArray) 2 (([2, 3] : List Int))).bind fun bt213 => ((dag_Head.f k bt213.1 (⟨#[112]⟩ : ByteArray)).bind fun bt217 => ((dag_Check.f k y205).bind fun t219 => (if t219 = 0 then (if bt208.2 = true then (if bt208.1 = 1 then (if bt213.2 = 0 then (if (bt213.1.length : Int) = 4 then (if bt217.2 = true then (if bt217.1 = 4 then ((dag_Ancestors.f k bt213.1 4).bind fun t220 => ((rectoplain_Ints.f k t220 (([1, 2, 3, 4] : List Int))).bind fun t226 => (if t226 = true then ((dag_Leaves.f k y205 (⟨#[112]⟩ : ByteArray)).bind fun t227 => ((rectoplain_Ints.f k t227 (([2, 3] : List Int))).bind fun t233 => (some t233))) else (some false)))) else (some false)) else (some false)) else (some false)) else (some false)) else (some false)) else (some false)) else (some false))))))
theorem rectolaw31_four.mono : ∀ k, LeO (rectolaw31_four.f k ) (rectolaw31_four.f (k + 1) ) := by
 intro  k
 unfold rectolaw31_four.f
 repeat' first
  | (with_reducible exact dag_Add.mono _ _ _ _ _ _)
  | (with_reducible exact dag_Ancestors.mono _ _ _)
  | (with_reducible exact dag_Base.mono _ _ _ _)
  | (with_reducible exact dag_Check.mono _ _)
  | (with_reducible exact dag_Head.mono _ _ _)
  | (with_reducible exact dag_Leaves.mono _ _ _)
  | (with_reducible exact rectoplain_Ints.mono _ _ _)
  | (with_reducible exact LeO.refl _)
  | (with_reducible exact LeO.none _)
  | (with_reducible refine LeO.ite ?_ ?_)
  | (with_reducible refine LeO.bind ?_ (fun _ => ?_))
  | exact dag_Add.mono _ _ _ _ _ _
  | exact dag_Ancestors.mono _ _ _
  | exact dag_Base.mono _ _ _ _
  | exact dag_Check.mono _ _
  | exact dag_Head.mono _ _ _
  | exact dag_Leaves.mono _ _ _
  | exact rectoplain_Ints.mono _ _ _
  | exact LeO.none _
  | refine LeO.ite ?_ ?_
  | refine LeO.bind ?_ (fun _ => ?_)
set_option maxHeartbeats 8000000 in
set_option maxRecDepth 100000 in
theorem rectolaw31_four.calls_true (k : Nat)  (r : Bool) (w : World) (h : rectolaw31_four.f k  = some r) (HG : Aside0 (Laid w)) (hr_ : Aside0 (r = true)) :
 Calls Tryd.prog 8 #[] w fun e w' => e = .returned (.bool r) ∧ Below w.heap.size w w' := by
 have hu43 := Tryd.underlying43; have HB := Aside0.mk (Below.refl w.heap.size w)
 have H : ((some (([(⟨1, (⟨#[112]⟩ : ByteArray), 1, ([] : List Int)⟩ : S43), (⟨2, (⟨#[112]⟩ : ByteArray), 1, (([1] : List Int))⟩ : S43), (⟨3, (⟨#[112]⟩ : ByteArray), 1, (([1] : List Int))⟩ : S43)] : List (S43)) : List (S43))).bind fun y205 => ((dag_Base.f k y205 2 3).bind fun bt208 => ((dag_Add.f k y205 0 (⟨#[112]⟩ : ByteArray) 2 (([2, 3] : List Int))).bind fun bt213 => ((dag_Head.f k bt213.1 (⟨#[112]⟩ : ByteArray)).bind fun bt217 => ((dag_Check.f k y205).bind fun t219 => (if t219 = 0 then (if bt208.2 = true then (if bt208.1 = 1 then (if bt213.2 = 0 then (if (bt213.1.length : Int) = 4 then (if bt217.2 = true then (if bt217.1 = 4 then ((dag_Ancestors.f k bt213.1 4).bind fun t220 => ((rectoplain_Ints.f k t220 (([1, 2, 3, 4] : List Int))).bind fun t226 => (if t226 = true then ((dag_Leaves.f k y205 (⟨#[112]⟩ : ByteArray)).bind fun t227 => ((rectoplain_Ints.f k t227 (([2, 3] : List Int))).bind fun t233 => (some t233))) else (some false)))) else (some false)) else (some false)) else (some false)) else (some false)) else (some false)) else (some false)) else (some false))))))) = some r := h
 clear h; obtain ⟨y199, hy199⟩ : ∃ y_ : List Int, y_ = (([1] : List Int)) := ⟨_, rfl⟩
 replace H : ((some (([(⟨1, (⟨#[112]⟩ : ByteArray), 1, ([] : List Int)⟩ : S43), (⟨2, (⟨#[112]⟩ : ByteArray), 1, y199⟩ : S43), (⟨3, (⟨#[112]⟩ : ByteArray), 1, (([1] : List Int))⟩ : S43)] : List (S43)) : List (S43))).bind fun y205 => ((dag_Base.f k y205 2 3).bind fun bt208 => ((dag_Add.f k y205 0 (⟨#[112]⟩ : ByteArray) 2 (([2, 3] : List Int))).bind fun bt213 => ((dag_Head.f k bt213.1 (⟨#[112]⟩ : ByteArray)).bind fun bt217 => ((dag_Check.f k y205).bind fun t219 => (if t219 = 0 then (if bt208.2 = true then (if bt208.1 = 1 then (if bt213.2 = 0 then (if (bt213.1.length : Int) = 4 then (if bt217.2 = true then (if bt217.1 = 4 then ((dag_Ancestors.f k bt213.1 4).bind fun t220 => ((rectoplain_Ints.f k t220 (([1, 2, 3, 4] : List Int))).bind fun t226 => (if t226 = true then ((dag_Leaves.f k y205 (⟨#[112]⟩ : ByteArray)).bind fun t227 => ((rectoplain_Ints.f k t227 (([2, 3] : List Int))).bind fun t233 => (some t233))) else (some false)))) else (some false)) else (some false)) else (some false)) else (some false)) else (some false)) else (some false)) else (some false))))))) = some r := by first | (rw [hy199]; with_reducible exact H) | (have H2_ := (Option.bind_some _ _).symm.trans H; rw [hy199]; with_reducible exact H2_) | (have H2_ := (Option.bind_some _ _).symm.trans H; with_reducible exact H2_) | with_reducible exact H | (rw [hy199]; exact H) | exact H
 have Ny199 := Aside0.mk hy199; clear hy199; obtain ⟨y202, hy202⟩ : ∃ y_ : List Int, y_ = (([1] : List Int)) := ⟨_, rfl⟩
 replace H : ((some (([(⟨1, (⟨#[112]⟩ : ByteArray), 1, ([] : List Int)⟩ : S43), (⟨2, (⟨#[112]⟩ : ByteArray), 1, y199⟩ : S43), (⟨3, (⟨#[112]⟩ : ByteArray), 1, y202⟩ : S43)] : List (S43)) : List (S43))).bind fun y205 => ((dag_Base.f k y205 2 3).bind fun bt208 => ((dag_Add.f k y205 0 (⟨#[112]⟩ : ByteArray) 2 (([2, 3] : List Int))).bind fun bt213 => ((dag_Head.f k bt213.1 (⟨#[112]⟩ : ByteArray)).bind fun bt217 => ((dag_Check.f k y205).bind fun t219 => (if t219 = 0 then (if bt208.2 = true then (if bt208.1 = 1 then (if bt213.2 = 0 then (if (bt213.1.length : Int) = 4 then (if bt217.2 = true then (if bt217.1 = 4 then ((dag_Ancestors.f k bt213.1 4).bind fun t220 => ((rectoplain_Ints.f k t220 (([1, 2, 3, 4] : List Int))).bind fun t226 => (if t226 = true then ((dag_Leaves.f k y205 (⟨#[112]⟩ : ByteArray)).bind fun t227 => ((rectoplain_Ints.f k t227 (([2, 3] : List Int))).bind fun t233 => (some t233))) else (some false)))) else (some false)) else (some false)) else (some false)) else (some false)) else (some false)) else (some false)) else (some false))))))) = some r := by first | (rw [hy202]; with_reducible exact H) | (have H2_ := (Option.bind_some _ _).symm.trans H; rw [hy202]; with_reducible exact H2_) | (have H2_ := (Option.bind_some _ _).symm.trans H; with_reducible exact H2_) | with_reducible exact H | (rw [hy202]; exact H) | exact H
 have Ny202 := Aside0.mk hy202; clear hy202; obtain ⟨y205, hy205⟩ : ∃ y_ : List (S43), y_ = (([(⟨1, (⟨#[112]⟩ : ByteArray), 1, ([] : List Int)⟩ : S43), (⟨2, (⟨#[112]⟩ : ByteArray), 1, y199⟩ : S43), (⟨3, (⟨#[112]⟩ : ByteArray), 1, y202⟩ : S43)] : List (S43))) := ⟨_, rfl⟩
 replace H : ((dag_Base.f k y205 2 3).bind fun bt208 => ((dag_Add.f k y205 0 (⟨#[112]⟩ : ByteArray) 2 (([2, 3] : List Int))).bind fun bt213 => ((dag_Head.f k bt213.1 (⟨#[112]⟩ : ByteArray)).bind fun bt217 => ((dag_Check.f k y205).bind fun t219 => (if t219 = 0 then (if bt208.2 = true then (if bt208.1 = 1 then (if bt213.2 = 0 then (if (bt213.1.length : Int) = 4 then (if bt217.2 = true then (if bt217.1 = 4 then ((dag_Ancestors.f k bt213.1 4).bind fun t220 => ((rectoplain_Ints.f k t220 (([1, 2, 3, 4] : List Int))).bind fun t226 => (if t226 = true then ((dag_Leaves.f k y205 (⟨#[112]⟩ : ByteArray)).bind fun t227 => ((rectoplain_Ints.f k t227 (([2, 3] : List Int))).bind fun t233 => (some t233))) else (some false)))) else (some false)) else (some false)) else (some false)) else (some false)) else (some false)) else (some false)) else (some false)))))) = some r := by first | (rw [hy205]; with_reducible exact H) | (have H2_ := (Option.bind_some _ _).symm.trans H; rw [hy205]; with_reducible exact H2_) | (have H2_ := (Option.bind_some _ _).symm.trans H; with_reducible exact H2_) | with_reducible exact H | (rw [hy205]; exact H) | exact H
 have Ny205 := Aside0.mk hy205; clear hy205; replace H := Option.bind_eq_some_iff.mp H; obtain ⟨⟨t208, t209⟩, A10, H⟩ := H
 replace H : ((dag_Add.f k y205 0 (⟨#[112]⟩ : ByteArray) 2 (([2, 3] : List Int))).bind fun bt213 => ((dag_Head.f k bt213.1 (⟨#[112]⟩ : ByteArray)).bind fun bt217 => ((dag_Check.f k y205).bind fun t219 => (if t219 = 0 then (if t209 = true then (if t208 = 1 then (if bt213.2 = 0 then (if (bt213.1.length : Int) = 4 then (if bt217.2 = true then (if bt217.1 = 4 then ((dag_Ancestors.f k bt213.1 4).bind fun t220 => ((rectoplain_Ints.f k t220 (([1, 2, 3, 4] : List Int))).bind fun t226 => (if t226 = true then ((dag_Leaves.f k y205 (⟨#[112]⟩ : ByteArray)).bind fun t227 => ((rectoplain_Ints.f k t227 (([2, 3] : List Int))).bind fun t233 => (some t233))) else (some false)))) else (some false)) else (some false)) else (some false)) else (some false)) else (some false)) else (some false)) else (some false))))) = some r := H
 have A1 := Aside0.mk A10; clear A10; obtain ⟨y210, hy210⟩ : ∃ y_ : List Int, y_ = (([2, 3] : List Int)) := ⟨_, rfl⟩
 replace H : ((dag_Add.f k y205 0 (⟨#[112]⟩ : ByteArray) 2 y210).bind fun bt213 => ((dag_Head.f k bt213.1 (⟨#[112]⟩ : ByteArray)).bind fun bt217 => ((dag_Check.f k y205).bind fun t219 => (if t219 = 0 then (if t209 = true then (if t208 = 1 then (if bt213.2 = 0 then (if (bt213.1.length : Int) = 4 then (if bt217.2 = true then (if bt217.1 = 4 then ((dag_Ancestors.f k bt213.1 4).bind fun t220 => ((rectoplain_Ints.f k t220 (([1, 2, 3, 4] : List Int))).bind fun t226 => (if t226 = true then ((dag_Leaves.f k y205 (⟨#[112]⟩ : ByteArray)).bind fun t227 => ((rectoplain_Ints.f k t227 (([2, 3] : List Int))).bind fun t233 => (some t233))) else (some false)))) else (some false)) else (some false)) else (some false)) else (some false)) else (some false)) else (some false)) else (some false))))) = some r := by first | (rw [hy210]; with_reducible exact H) | (have H2_ := (Option.bind_some _ _).symm.trans H; rw [hy210]; with_reducible exact H2_) | (have H2_ := (Option.bind_some _ _).symm.trans H; with_reducible exact H2_) | with_reducible exact H | (rw [hy210]; exact H) | exact H
 have Ny210 := Aside0.mk hy210; clear hy210; replace H := Option.bind_eq_some_iff.mp H; obtain ⟨⟨t213, t216⟩, A20, H⟩ := H
 replace H : ((dag_Head.f k t213 (⟨#[112]⟩ : ByteArray)).bind fun bt217 => ((dag_Check.f k y205).bind fun t219 => (if t219 = 0 then (if t209 = true then (if t208 = 1 then (if t216 = 0 then (if (t213.length : Int) = 4 then (if bt217.2 = true then (if bt217.1 = 4 then ((dag_Ancestors.f k t213 4).bind fun t220 => ((rectoplain_Ints.f k t220 (([1, 2, 3, 4] : List Int))).bind fun t226 => (if t226 = true then ((dag_Leaves.f k y205 (⟨#[112]⟩ : ByteArray)).bind fun t227 => ((rectoplain_Ints.f k t227 (([2, 3] : List Int))).bind fun t233 => (some t233))) else (some false)))) else (some false)) else (some false)) else (some false)) else (some false)) else (some false)) else (some false)) else (some false)))) = some r := H
 have A2 := Aside0.mk A20; clear A20; replace H := Option.bind_eq_some_iff.mp H; obtain ⟨⟨t217, t218⟩, A30, H⟩ := H
 replace H : ((dag_Check.f k y205).bind fun t219 => (if t219 = 0 then (if t209 = true then (if t208 = 1 then (if t216 = 0 then (if (t213.length : Int) = 4 then (if t218 = true then (if t217 = 4 then ((dag_Ancestors.f k t213 4).bind fun t220 => ((rectoplain_Ints.f k t220 (([1, 2, 3, 4] : List Int))).bind fun t226 => (if t226 = true then ((dag_Leaves.f k y205 (⟨#[112]⟩ : ByteArray)).bind fun t227 => ((rectoplain_Ints.f k t227 (([2, 3] : List Int))).bind fun t233 => (some t233))) else (some false)))) else (some false)) else (some false)) else (some false)) else (some false)) else (some false)) else (some false)) else (some false))) = some r := H
 have A3 := Aside0.mk A30; clear A30; replace H := Option.bind_eq_some_iff.mp H; obtain ⟨t219, A40, H⟩ := H
 replace H : (if t219 = 0 then (if t209 = true then (if t208 = 1 then (if t216 = 0 then (if (t213.length : Int) = 4 then (if t218 = true then (if t217 = 4 then ((dag_Ancestors.f k t213 4).bind fun t220 => ((rectoplain_Ints.f k t220 (([1, 2, 3, 4] : List Int))).bind fun t226 => (if t226 = true then ((dag_Leaves.f k y205 (⟨#[112]⟩ : ByteArray)).bind fun t227 => ((rectoplain_Ints.f k t227 (([2, 3] : List Int))).bind fun t233 => (some t233))) else (some false)))) else (some false)) else (some false)) else (some false)) else (some false)) else (some false)) else (some false)) else (some false)) = some r := H
 have A4 := Aside0.mk A40; clear A40
 by_cases c5 : t219 = 0
 · rw [if_pos c5] at H
   have c5b0 : (t219 == 0) = true := beq_iff_eq.mpr c5; have c5b1 : (t219 != 0) = false := bne_eq_false_iff_eq.mpr c5; clear c5
   by_cases c6 : t209 = true
   · subst c6
     have H1 : (if t208 = 1 then (if t216 = 0 then (if (t213.length : Int) = 4 then (if t218 = true then (if t217 = 4 then ((dag_Ancestors.f k t213 4).bind fun t220 => ((rectoplain_Ints.f k t220 (([1, 2, 3, 4] : List Int))).bind fun t226 => (if t226 = true then ((dag_Leaves.f k y205 (⟨#[112]⟩ : ByteArray)).bind fun t227 => ((rectoplain_Ints.f k t227 (([2, 3] : List Int))).bind fun t233 => (some t233))) else (some false)))) else (some false)) else (some false)) else (some false)) else (some false)) else (some false)) = some r := by rw [if_pos rfl] at H; exact H
     clear H; have H := H1; clear H1
     by_cases c7 : t208 = 1
     · rw [if_pos c7] at H
       have c7b0 : (t208 == 1) = true := beq_iff_eq.mpr c7; have c7b1 : (t208 != 1) = false := bne_eq_false_iff_eq.mpr c7; clear c7
       by_cases c8 : t216 = 0
       · rw [if_pos c8] at H
         have c8b0 : (t216 == 0) = true := beq_iff_eq.mpr c8; have c8b1 : (t216 != 0) = false := bne_eq_false_iff_eq.mpr c8; clear c8
         by_cases c9 : (t213.length : Int) = 4
         · rw [if_pos c9] at H
           have c9b0 : ((t213.length : Int) == 4) = true := beq_iff_eq.mpr c9; have c9b1 : ((t213.length : Int) != 4) = false := bne_eq_false_iff_eq.mpr c9; clear c9
           by_cases c10 : t218 = true
           · subst c10
             have H1 : (if t217 = 4 then ((dag_Ancestors.f k t213 4).bind fun t220 => ((rectoplain_Ints.f k t220 (([1, 2, 3, 4] : List Int))).bind fun t226 => (if t226 = true then ((dag_Leaves.f k y205 (⟨#[112]⟩ : ByteArray)).bind fun t227 => ((rectoplain_Ints.f k t227 (([2, 3] : List Int))).bind fun t233 => (some t233))) else (some false)))) else (some false)) = some r := by rw [if_pos rfl] at H; exact H
             clear H; have H := H1; clear H1
             by_cases c11 : t217 = 4
             · rw [if_pos c11] at H
               have c11b0 : (t217 == 4) = true := beq_iff_eq.mpr c11; have c11b1 : (t217 != 4) = false := bne_eq_false_iff_eq.mpr c11; clear c11; replace H := Option.bind_eq_some_iff.mp H; obtain ⟨t220, A120, H⟩ := H
               replace H : ((rectoplain_Ints.f k t220 (([1, 2, 3, 4] : List Int))).bind fun t226 => (if t226 = true then ((dag_Leaves.f k y205 (⟨#[112]⟩ : ByteArray)).bind fun t227 => ((rectoplain_Ints.f k t227 (([2, 3] : List Int))).bind fun t233 => (some t233))) else (some false))) = some r := H
               have A12 := Aside0.mk A120; clear A120; obtain ⟨y223, hy223⟩ : ∃ y_ : List Int, y_ = (([1, 2, 3, 4] : List Int)) := ⟨_, rfl⟩
               replace H : ((rectoplain_Ints.f k t220 y223).bind fun t226 => (if t226 = true then ((dag_Leaves.f k y205 (⟨#[112]⟩ : ByteArray)).bind fun t227 => ((rectoplain_Ints.f k t227 (([2, 3] : List Int))).bind fun t233 => (some t233))) else (some false))) = some r := by first | (rw [hy223]; with_reducible exact H) | (have H2_ := (Option.bind_some _ _).symm.trans H; rw [hy223]; with_reducible exact H2_) | (have H2_ := (Option.bind_some _ _).symm.trans H; with_reducible exact H2_) | with_reducible exact H | (rw [hy223]; exact H) | exact H
               have Ny223 := Aside0.mk hy223; clear hy223; replace H := Option.bind_eq_some_iff.mp H; obtain ⟨t226, A130, H⟩ := H
               replace H : (if t226 = true then ((dag_Leaves.f k y205 (⟨#[112]⟩ : ByteArray)).bind fun t227 => ((rectoplain_Ints.f k t227 (([2, 3] : List Int))).bind fun t233 => (some t233))) else (some false)) = some r := H
               have A13 := Aside0.mk A130; clear A130
               by_cases c14 : t226 = true
               · subst c14
                 have H1 : ((dag_Leaves.f k y205 (⟨#[112]⟩ : ByteArray)).bind fun t227 => ((rectoplain_Ints.f k t227 (([2, 3] : List Int))).bind fun t233 => (some t233))) = some r := by rw [if_pos rfl] at H; exact H
                 clear H; have H := H1; clear H1; replace H := Option.bind_eq_some_iff.mp H; obtain ⟨t227, A150, H⟩ := H
                 replace H : ((rectoplain_Ints.f k t227 (([2, 3] : List Int))).bind fun t233 => (some t233)) = some r := H
                 have A15 := Aside0.mk A150; clear A150; obtain ⟨y230, hy230⟩ : ∃ y_ : List Int, y_ = (([2, 3] : List Int)) := ⟨_, rfl⟩
                 replace H : ((rectoplain_Ints.f k t227 y230).bind fun t233 => (some t233)) = some r := by first | (rw [hy230]; with_reducible exact H) | (have H2_ := (Option.bind_some _ _).symm.trans H; rw [hy230]; with_reducible exact H2_) | (have H2_ := (Option.bind_some _ _).symm.trans H; with_reducible exact H2_) | with_reducible exact H | (rw [hy230]; exact H) | exact H
                 have Ny230 := Aside0.mk hy230; clear hy230; replace H := Option.bind_eq_some_iff.mp H; obtain ⟨t233, A160, H⟩ := H; replace H : (some t233) = some r := H; have A16 := Aside0.mk A160; clear A160; obtain rfl := Option.some.inj H
                 go_enter Tryd.func8, Tryd.ntmps8
                 go_wp2_with (first | ((with_reducible refine gate_dst (N := 9) rfl ?_); (try (refine gate_guard (by rfl) ?_; dsimp only)); refine Kd.R_lit (Kd.int .i64) _ 3 ?hg (N := 9) ?hd (xs := ([1] : List Int)) (inner := [.int .i64 1]) (ok := fun _ => True) (okp := fun _ => True) ?hr ?hp (fun _ hk => hk) trivial (Below.refl _ _) (Nat.le_refl _) (by simp) ?_; (case hd => rfl); (case hg => rfl); (case hr => exact qD115); (case hp => exact (Reps.one (show Kd.M (Kd.int .i64) _ _ _ 1 [.int .i64 1] from rfl) (Reps.none _ _))); intro v200 w17 ho18 hb hg_ hnew_; clear hg_ hnew_; (first | rw [← Ny199.out] at ho18 | (simp only [Int.reduceToNat] at ho18; rw [← Ny199.out] at ho18)); have n0_ := Aside0.mk (Kd.R_lower ho18 (below_size qD110)); have n1_ := Aside0.mk (below_step qD110 hb); clear HB; have HO201 := n0_; have HB := n1_; clear n0_ n1_; clear hb ho18; obtain ⟨Ao19, co19, eo19⟩ := Kd.R_slice HO201.out; subst eo19) | ((with_reducible refine gate_dst (N := 11) rfl ?_); (try (refine gate_guard (by rfl) ?_; dsimp only)); refine Kd.R_lit (Kd.int .i64) _ 3 ?hg (N := 11) ?hd (xs := ([1] : List Int)) (inner := [.int .i64 1]) (ok := fun _ => True) (okp := fun _ => True) ?hr ?hp (fun _ hk => hk) trivial (Below.refl _ _) (Nat.le_refl _) (by simp) ?_; (case hd => rfl); (case hg => rfl); (case hr => exact qD115); (case hp => exact (Reps.one (show Kd.M (Kd.int .i64) _ _ _ 1 [.int .i64 1] from rfl) (Reps.none _ _))); intro v203 w20 ho21 hb hg_ hnew_; clear hg_ hnew_; (first | rw [← Ny202.out] at ho21 | (simp only [Int.reduceToNat] at ho21; rw [← Ny202.out] at ho21)); have n0_ := Aside0.mk (Kd.R_elder' (mRD11 HO201.out) (Kd.R_base ho21) hb); have n1_ := Aside0.mk (Kd.R_lower (Kd.R_new' ho21 (Kd.R_lt (mRD11 HO201.out))) (below_size qD110)); have n2_ := Aside0.mk (below_step qD110 hb); clear HO201; clear HB; have HO201 := n0_; have HO204 := n1_; have HB := n2_; clear n0_ n1_ n2_; clear hb ho21; obtain ⟨Ao22, co22, eo22⟩ := Kd.R_slice HO204.out; subst eo22) | ((with_reducible refine gate_dst (N := 13) rfl ?_); (try (refine gate_guard (by rfl) ?_; dsimp only)); refine Kd.N_lit k43 _ 43 ?hg (N' := 13) ?hd (xs := ([(⟨1, (⟨#[112]⟩ : ByteArray), 1, ([] : List Int)⟩ : S43), (⟨2, (⟨#[112]⟩ : ByteArray), 1, y199⟩ : S43), (⟨3, (⟨#[112]⟩ : ByteArray), 1, y202⟩ : S43)] : List (S43))) (inner := [.int .i64 1, .string (⟨#[112]⟩ : ByteArray), .int .i64 1, .slice none 0 0, .int .i64 2, .string (⟨#[112]⟩ : ByteArray), .int .i64 1, .slice Ao19 y199.length co19, .int .i64 3, .string (⟨#[112]⟩ : ByteArray), .int .i64 1, .slice Ao22 y202.length co22]) (ok := (fun _ => True)) (okp := (fun _ => True)) ?hr ?hp (fun _ hk => hk) ((show ∀ k_, w20.heap.size ≤ k_ → (fun _ => True) k_ from fun k_ hk => trivial) _ (Nat.le_refl _)) (Below.refl _ _) (Nat.le_refl _) (by simp) ?_; (case hd => rfl); (case hg => rfl); (case hr => exact qD115); (case hp => exact (Reps.c4 (show Kd.FK k43 _ _ (⟨1, (⟨#[112]⟩ : ByteArray), 1, ([] : List Int)⟩ : S43) [.int .i64 1, .string (⟨#[112]⟩ : ByteArray), .int .i64 1, .slice none 0 0] from (k43_mkF _ _ (⟨1, (⟨#[112]⟩ : ByteArray), 1, ([] : List Int)⟩ : S43) (Nat.le_refl _) (Kd.F_nil _ _ _))) (Reps.c4 (show Kd.FK k43 _ _ (⟨2, (⟨#[112]⟩ : ByteArray), 1, y199⟩ : S43) [.int .i64 2, .string (⟨#[112]⟩ : ByteArray), .int .i64 1, .slice Ao19 y199.length co19] from (k43_mkF _ _ (⟨2, (⟨#[112]⟩ : ByteArray), 1, y199⟩ : S43) (Kd.R_reads' (Kd.R_mono (ok' := (fun _ => True)) (HO201.out) (fun k_ hk => trivial))).2.1 (Kd.R_F (Kd.R_mono (ok' := (fun _ => True)) (HO201.out) (fun k_ hk => trivial))))) (Reps.c4 (show Kd.FK k43 _ _ (⟨3, (⟨#[112]⟩ : ByteArray), 1, y202⟩ : S43) [.int .i64 3, .string (⟨#[112]⟩ : ByteArray), .int .i64 1, .slice Ao22 y202.length co22] from (k43_mkF _ _ (⟨3, (⟨#[112]⟩ : ByteArray), 1, y202⟩ : S43) (Kd.R_reads' (Kd.R_mono (ok' := (fun _ => True)) (HO204.out) (fun k_ hk => trivial))).2.1 (Kd.R_F (Kd.R_mono (ok' := (fun _ => True)) (HO204.out) (fun k_ hk => trivial))))) (Reps.none _ _))))); intro v206 w23 ho24 hb hg_ hnew_; clear hg_ hnew_; (first | rw [← Ny205.out] at ho24 | (simp only [Int.reduceToNat] at ho24; rw [← Ny205.out] at ho24)); have n0_ := Aside0.mk (Kd.N_lower ho24 (below_size qD110)); have n1_ := Aside0.mk (below_step qD110 hb); clear HB; clear HO201; clear HO204; have HO207 := n0_; have HB := n1_; clear n0_ n1_; clear hb ho24; obtain ⟨Ao25, co25, eo25⟩ := Kd.N_slice HO207.out; subst eo25) | ((with_reducible refine gate_callee (f := 18) rfl ?_); refine goesL_ (some 16) rfl rfl Tryd.func18 (by kernel_rfl) rfl #[.slice Ao25 y205.length co25, .int .i64 2, .int .i64 3] rfl qD111 ?_; (with_reducible refine (dag_Base.calls k _ _ y205 2 3 t208 true _ ?side1 ?side2 A1.out ?side3).mono ?_); (case side1 => exact qD112); (case side2 => exact (Kd.N_reads' HO207.out).2.1); (case side3 => exact qD119); rintro e w26 ⟨rfl, hb⟩; refine ⟨_, rfl, ?_⟩; have n0_ := Aside0.mk (Kd.N_below (mND11 HO207.out) hb); have n1_ := Aside0.mk (below_step qD110 hb); clear HO207; clear HB; have HO207 := n0_; have HB := n1_; clear n0_ n1_; (try clear hb); (try clear hb2); (try clear hk); (try clear hi)) | ((with_reducible refine gate_dst (N := 21) rfl ?_); (try (refine gate_guard (by rfl) ?_; dsimp only)); refine Kd.R_lit (Kd.int .i64) _ 3 ?hg (N := 21) ?hd (xs := ([2, 3] : List Int)) (inner := [.int .i64 2, .int .i64 3]) (ok := fun _ => True) (okp := fun _ => True) ?hr ?hp (fun _ hk => hk) trivial (Below.refl _ _) (Nat.le_refl _) (by simp) ?_; (case hd => rfl); (case hg => rfl); (case hr => exact qD115); (case hp => exact qD114); intro v211 w27 ho28 hb hg_ hnew_; clear hg_ hnew_; (first | rw [← Ny210.out] at ho28 | (simp only [Int.reduceToNat] at ho28; rw [← Ny210.out] at ho28)); have n0_ := Aside0.mk (Kd.N_elder' (mND11 HO207.out) (Kd.R_base ho28) hb); have n1_ := Aside0.mk (Kd.R_lower ho28 (below_size qD110)); have n2_ := Aside0.mk (below_step qD110 hb); clear HO207; clear HB; have HO207 := n0_; have HO212 := n1_; have HB := n2_; clear n0_ n1_ n2_; clear hb ho28; obtain ⟨Ao29, co29, eo29⟩ := Kd.R_slice HO212.out; subst eo29) | ((with_reducible refine gate_callee (f := 23) rfl ?_); refine goesL_ (some 23) rfl rfl Tryd.func23 (by kernel_rfl) rfl #[.slice Ao25 y205.length co25, .agg #[.int .i64 0, .string (⟨#[112]⟩ : ByteArray), .int .i64 2, .slice Ao29 y210.length co29]] rfl qD111 ?_; (with_reducible refine (dag_Add.calls k (fun k_ => (True ∧ some k_ ≠ (.slice Ao29 y210.length co29 : Value).ownBlock)) _ _ y205 0 (⟨#[112]⟩ : ByteArray) 2 (fun k_ => some k_ = (.slice Ao29 y210.length co29 : Value).ownBlock) _ _ y210 t213 t216 _ ?side1 ?side2 A2.out ?side3).mono ?_); (case side1 => exact Kd.N_V (HO207.out)); (case side2 => exact Kd.R_V (Kd.R_tight rfl (Kd.R_apart' (HO212.out) (Kd.N_typed HO207.out) (by decide)))); (case side3 => exact qD119); rintro e w30 ⟨v214, rfl, ho0, hb⟩; refine ⟨_, rfl, ?_⟩; have n0_ := Aside0.mk (Kd.N_elder' (mND11 HO207.out) (Kd.N_base ho0) hb); have n1_ := Aside0.mk (Kd.R_below (mRD11 HO212.out) hb); have n2_ := Aside0.mk (Kd.N_lower (Kd.N_mono (ok' := fun k_ => True) ho0 (fun k_ hk_ => trivial)) (below_size qD110)); have n3_ := Aside0.mk (below_step qD110 hb); clear HO207; clear HO212; clear HB; have HO207 := n0_; have HO212 := n1_; have HO215 := n2_; have HB := n3_; clear n0_ n1_ n2_ n3_; (try clear hb); (try clear hb2); (try clear hk); (try clear hi); (try clear ho0); obtain ⟨Ao31, co31, eo31⟩ := Kd.N_slice HO215.out; subst eo31) | ((with_reducible refine gate_callee (f := 10) rfl ?_); refine goesL_ (some 28) rfl rfl Tryd.func10 (by kernel_rfl) rfl #[.slice Ao31 t213.length co31, .string (⟨#[112]⟩ : ByteArray)] rfl qD111 ?_; (with_reducible refine (dag_Head.calls k _ _ t213 (⟨#[112]⟩ : ByteArray) t217 true _ ?side1 ?side2 A3.out ?side3).mono ?_); (case side1 => exact qD113); (case side2 => exact (Kd.N_reads' HO215.out).2.1); (case side3 => exact qD119); rintro e w32 ⟨rfl, hb⟩; refine ⟨_, rfl, ?_⟩; have n0_ := Aside0.mk (Kd.N_below (mND11 HO207.out) hb); have n1_ := Aside0.mk (Kd.R_below (mRD11 HO212.out) hb); have n2_ := Aside0.mk (Kd.N_below (mND11 HO215.out) hb); have n3_ := Aside0.mk (below_step qD110 hb); clear HO207; clear HO212; clear HO215; clear HB; have HO207 := n0_; have HO212 := n1_; have HO215 := n2_; have HB := n3_; clear n0_ n1_ n2_ n3_; (try clear hb); (try clear hb2); (try clear hk); (try clear hi)) | ((with_reducible refine gate_callee (f := 21) rfl ?_); refine goesL_ (some 32) rfl rfl Tryd.func21 (by kernel_rfl) rfl #[.slice Ao25 y205.length co25] rfl qD111 ?_; (with_reducible refine (dag_Check.calls k _ _ y205 t219 _ ?side1 ?side2 A4.out ?side3).mono ?_); (case side1 => exact qD112); (case side2 => exact (Kd.N_reads' HO207.out).2.1); (case side3 => exact qD119); rintro e w33 ⟨rfl, hb⟩; refine ⟨_, rfl, ?_⟩; have n0_ := Aside0.mk (Kd.N_below (mND11 HO207.out) hb); have n1_ := Aside0.mk (Kd.R_below (mRD11 HO212.out) hb); have n2_ := Aside0.mk (Kd.N_below (mND11 HO215.out) hb); have n3_ := Aside0.mk (below_step qD110 hb); clear HO207; clear HO212; clear HO215; clear HB; have HO207 := n0_; have HO212 := n1_; have HO215 := n2_; have HB := n3_; clear n0_ n1_ n2_ n3_; (try clear hb); (try clear hb2); (try clear hk); (try clear hi)) | (go_at_call 17; (with_reducible refine (dag_Ancestors.calls k _ _ t213 4 t220 _ ?side1 ?side2 A12.out ?side3).mono ?_); (case side1 => exact qD113); (case side2 => exact (Kd.N_reads' HO215.out).2.1); (case side3 => exact qD119); rintro e w34 ⟨v221, rfl, ho0, hb⟩; have n0_ := Aside0.mk (Kd.N_elder' (mND11 HO207.out) (Kd.R_base ho0) hb); have n1_ := Aside0.mk (Kd.R_elder' (mRD11 HO212.out) (Kd.R_base ho0) hb); have n2_ := Aside0.mk (Kd.N_elder' (mND11 HO215.out) (Kd.R_base ho0) hb); have n3_ := Aside0.mk (Kd.R_lower (Kd.R_new' ho0 (Kd.R_lt (mRD11 HO212.out))) (below_size qD110)); have n4_ := Aside0.mk (below_step qD110 hb); clear HO207; clear HO212; clear HO215; clear HB; have HO207 := n0_; have HO212 := n1_; have HO215 := n2_; have HO222 := n3_; have HB := n4_; clear n0_ n1_ n2_ n3_ n4_; (try clear hb); (try clear hb2); (try clear hk); (try clear hi); (try clear ho0)) | ((with_reducible refine gate_dst (N := 60) rfl ?_); (try (refine gate_guard (by rfl) ?_; dsimp only)); refine Kd.R_lit (Kd.int .i64) _ 3 ?hg (N := 60) ?hd (xs := ([1, 2, 3, 4] : List Int)) (inner := [.int .i64 1, .int .i64 2, .int .i64 3, .int .i64 4]) (ok := fun _ => True) (okp := fun _ => True) ?hr ?hp (fun _ hk => hk) trivial (Below.refl _ _) (Nat.le_refl _) (by simp) ?_; (case hd => rfl); (case hg => rfl); (case hr => exact qD115); (case hp => exact (Reps.one (show Kd.M (Kd.int .i64) _ _ _ 1 [.int .i64 1] from rfl) (Reps.one (show Kd.M (Kd.int .i64) _ _ _ 2 [.int .i64 2] from rfl) (Reps.one (show Kd.M (Kd.int .i64) _ _ _ 3 [.int .i64 3] from rfl) (Reps.one (show Kd.M (Kd.int .i64) _ _ _ 4 [.int .i64 4] from rfl) (Reps.none _ _)))))); intro v224 w35 ho36 hb hg_ hnew_; clear hg_ hnew_; (first | rw [← Ny223.out] at ho36 | (simp only [Int.reduceToNat] at ho36; rw [← Ny223.out] at ho36)); have n0_ := Aside0.mk (Kd.N_elder' (mND11 HO207.out) (Kd.R_base ho36) hb); have n1_ := Aside0.mk (Kd.R_elder' (mRD11 HO212.out) (Kd.R_base ho36) hb); have n2_ := Aside0.mk (Kd.N_elder' (mND11 HO215.out) (Kd.R_base ho36) hb); have n3_ := Aside0.mk (Kd.R_elder' (mRD11 HO222.out) (Kd.R_base ho36) hb); have n4_ := Aside0.mk (Kd.R_lower (Kd.R_new' (Kd.R_new' ho36 (Kd.R_lt (mRD11 HO212.out))) (Kd.R_lt (mRD11 HO222.out))) (below_size qD110)); have n5_ := Aside0.mk (below_step qD110 hb); clear HO207; clear HO212; clear HO215; clear HO222; clear HB; have HO207 := n0_; have HO212 := n1_; have HO215 := n2_; have HO222 := n3_; have HO225 := n4_; have HB := n5_; clear n0_ n1_ n2_ n3_ n4_ n5_; clear hb ho36; obtain ⟨Ao37, co37, eo37⟩ := Kd.R_slice HO222.out; subst eo37; obtain ⟨Ao38, co38, eo38⟩ := Kd.R_slice HO225.out; subst eo38) | (go_at_call 15; (with_reducible refine (rectoplain_Ints.calls k _ _ t220 _ _ y223 true _ ?side1 ?side2 ?side3 ?side4 A13.out ?side5).mono ?_); (case side1 => repeat (first | exact (Kd.R_reads' HO222.out).2.2 | (with_reducible refine Kd.C_alloc ?_ _) | (with_reducible refine Kd.C_drewN ?_ _) | (with_reducible refine Kd.C_drew ?_))); (case side2 => exact (Kd.R_reads' HO222.out).2.1); (case side3 => repeat (first | exact (Kd.R_reads' HO225.out).2.2 | (with_reducible refine Kd.C_alloc ?_ _) | (with_reducible refine Kd.C_drewN ?_ _) | (with_reducible refine Kd.C_drew ?_))); (case side4 => exact (Kd.R_reads' HO225.out).2.1); (case side5 => exact qD119); rintro e w' ⟨rfl, ⟨nd, rfl⟩⟩) | (go_at_call 12; (with_reducible refine (dag_Leaves.calls k _ _ y205 (⟨#[112]⟩ : ByteArray) t227 _ ?side1 ?side2 A15.out ?side3).mono ?_); (case side1 => exact qD112); (case side2 => exact (Kd.N_reads' HO207.out).2.1); (case side3 => exact qD119); rintro e w39 ⟨v228, rfl, ho0, hb⟩; have n0_ := Aside0.mk (Kd.N_elder' (mND11 HO207.out) (Kd.R_base ho0) hb); have n1_ := Aside0.mk (Kd.R_elder' (mRD11 HO212.out) (Kd.R_base ho0) hb); have n2_ := Aside0.mk (Kd.N_elder' (mND11 HO215.out) (Kd.R_base ho0) hb); have n3_ := Aside0.mk (Kd.R_elder' (mRD11 HO222.out) (Kd.R_base ho0) hb); have n4_ := Aside0.mk (Kd.R_elder' (mRD11 HO225.out) (Kd.R_base ho0) hb); have n5_ := Aside0.mk (Kd.R_lower (Kd.R_new' (Kd.R_new' (Kd.R_new' ho0 (Kd.R_lt (mRD11 HO212.out))) (Kd.R_lt (mRD11 HO222.out))) (Kd.R_lt (mRD11 HO225.out))) (below_size qD110)); have n6_ := Aside0.mk (below_step qD110 hb); clear HO207; clear HO212; clear HO215; clear HO222; clear HO225; clear HB; have HO207 := n0_; have HO212 := n1_; have HO215 := n2_; have HO222 := n3_; have HO225 := n4_; have HO229 := n5_; have HB := n6_; clear n0_ n1_ n2_ n3_ n4_ n5_ n6_; (try clear hb); (try clear hb2); (try clear hk); (try clear hi); (try clear ho0)) | ((with_reducible refine gate_dst (N := 66) rfl ?_); (try (refine gate_guard (by rfl) ?_; dsimp only)); refine Kd.R_lit (Kd.int .i64) _ 3 ?hg (N := 66) ?hd (xs := ([2, 3] : List Int)) (inner := [.int .i64 2, .int .i64 3]) (ok := fun _ => True) (okp := fun _ => True) ?hr ?hp (fun _ hk => hk) trivial (Below.refl _ _) (Nat.le_refl _) (by simp) ?_; (case hd => rfl); (case hg => rfl); (case hr => exact qD115); (case hp => exact qD114); intro v231 w40 ho41 hb hg_ hnew_; clear hg_ hnew_; (first | rw [← Ny230.out] at ho41 | (simp only [Int.reduceToNat] at ho41; rw [← Ny230.out] at ho41)); have n0_ := Aside0.mk (Kd.N_elder' (mND11 HO207.out) (Kd.R_base ho41) hb); have n1_ := Aside0.mk (Kd.R_elder' (mRD11 HO212.out) (Kd.R_base ho41) hb); have n2_ := Aside0.mk (Kd.N_elder' (mND11 HO215.out) (Kd.R_base ho41) hb); have n3_ := Aside0.mk (Kd.R_elder' (mRD11 HO222.out) (Kd.R_base ho41) hb); have n4_ := Aside0.mk (Kd.R_elder' (mRD11 HO225.out) (Kd.R_base ho41) hb); have n5_ := Aside0.mk (Kd.R_elder' (mRD11 HO229.out) (Kd.R_base ho41) hb); have n6_ := Aside0.mk (Kd.R_lower (Kd.R_new' (Kd.R_new' (Kd.R_new' (Kd.R_new' ho41 (Kd.R_lt (mRD11 HO212.out))) (Kd.R_lt (mRD11 HO222.out))) (Kd.R_lt (mRD11 HO225.out))) (Kd.R_lt (mRD11 HO229.out))) (below_size qD110)); have n7_ := Aside0.mk (below_step qD110 hb); clear HO207; clear HO212; clear HO215; clear HO222; clear HO225; clear HO229; clear HB; have HO207 := n0_; have HO212 := n1_; have HO215 := n2_; have HO222 := n3_; have HO225 := n4_; have HO229 := n5_; have HO232 := n6_; have HB := n7_; clear n0_ n1_ n2_ n3_ n4_ n5_ n6_ n7_; clear hb ho41; obtain ⟨Ao42, co42, eo42⟩ := Kd.R_slice HO229.out; subst eo42; obtain ⟨Ao43, co43, eo43⟩ := Kd.R_slice HO232.out; subst eo43) | (go_at_call 15; (with_reducible refine (rectoplain_Ints.calls k _ _ t227 _ _ y230 t233 _ ?side1 ?side2 ?side3 ?side4 A16.out ?side5).mono ?_); (case side1 => repeat (first | exact (Kd.R_reads' HO229.out).2.2 | (with_reducible refine Kd.C_alloc ?_ _) | (with_reducible refine Kd.C_drewN ?_ _) | (with_reducible refine Kd.C_drew ?_))); (case side2 => exact (Kd.R_reads' HO229.out).2.1); (case side3 => repeat (first | exact (Kd.R_reads' HO232.out).2.2 | (with_reducible refine Kd.C_alloc ?_ _) | (with_reducible refine Kd.C_drewN ?_ _) | (with_reducible refine Kd.C_drew ?_))); (case side4 => exact (Kd.R_reads' HO232.out).2.1); (case side5 => exact qD119); rintro e w' ⟨rfl, ⟨nd, rfl⟩⟩))
                 go_ret
                 exact ⟨by first | rfl | (simp [errW_none, errW_some] <;> rfl) | (simp [*, errW_none, errW_some] <;> rfl), qD110⟩
               · replace c14 := Bool.eq_false_iff.mpr c14
                 subst c14
                 have H1 : (some false) = some r := by rw [if_neg (show ¬ (false = true) by decide)] at H; exact H
                 clear H; have H := H1; clear H1
                 exact absurd ((Option.some.inj H).trans hr_.out) (by decide)
             · rw [if_neg c11] at H
               have c11b0 : (t217 == 4) = false := beq_eq_false_iff_ne.mpr c11; have c11b1 : (t217 != 4) = true := bne_iff_ne.mpr c11
               exact absurd ((Option.some.inj H).trans hr_.out) (by decide)
           · replace c10 := Bool.eq_false_iff.mpr c10
             subst c10
             have H1 : (some false) = some r := by rw [if_neg (show ¬ (false = true) by decide)] at H; exact H
             clear H; have H := H1; clear H1
             exact absurd ((Option.some.inj H).trans hr_.out) (by decide)
         · rw [if_neg c9] at H
           have c9b0 : ((t213.length : Int) == 4) = false := beq_eq_false_iff_ne.mpr c9; have c9b1 : ((t213.length : Int) != 4) = true := bne_iff_ne.mpr c9
           exact absurd ((Option.some.inj H).trans hr_.out) (by decide)
       · rw [if_neg c8] at H
         have c8b0 : (t216 == 0) = false := beq_eq_false_iff_ne.mpr c8; have c8b1 : (t216 != 0) = true := bne_iff_ne.mpr c8
         exact absurd ((Option.some.inj H).trans hr_.out) (by decide)
     · rw [if_neg c7] at H
       have c7b0 : (t208 == 1) = false := beq_eq_false_iff_ne.mpr c7; have c7b1 : (t208 != 1) = true := bne_iff_ne.mpr c7
       exact absurd ((Option.some.inj H).trans hr_.out) (by decide)
   · replace c6 := Bool.eq_false_iff.mpr c6
     subst c6
     have H1 : (some false) = some r := by rw [if_neg (show ¬ (false = true) by decide)] at H; exact H
     clear H; have H := H1; clear H1
     exact absurd ((Option.some.inj H).trans hr_.out) (by decide)
 · rw [if_neg c5] at H
   have c5b0 : (t219 == 0) = false := beq_eq_false_iff_ne.mpr c5; have c5b1 : (t219 != 0) = true := bne_iff_ne.mpr c5
   exact absurd ((Option.some.inj H).trans hr_.out) (by decide)
theorem rectolaw31_four.true_ {k : Nat} {r : Bool} (h : rectolaw31_four.f k = some r) : r = true := by
 have h1 := at_rounds rectolaw31_four.mono (Nat.le_max_left k 64) h; have h2 := at_rounds rectolaw31_four.mono (Nat.le_max_right k 64) (show rectolaw31_four.f 64 = some true by kernel_rfl)
 exact Option.some.inj (h1.symm.trans h2)
theorem rectolaw31_four.calls (k : Nat)  (r : Bool) (w : World) (h : rectolaw31_four.f k  = some r) (HG : Aside0 (Laid w)) :
 Calls Tryd.prog 8 #[] w fun e w' => e = .returned (.bool r) ∧ Below w.heap.size w w' :=
 rectolaw31_four.calls_true k r w h HG ⟨rectolaw31_four.true_ h⟩

/-! ### rectolaw31_has: function 22 -/
def rectolaw31_has.l0 : Nat → Int → List Int → Int → Int → Option (Bool)
 | 0, _, _, _, _ => none
 | k + 1, x1, x7, x8, x9 => if x9 < x8 then (if 0 ≤ x9 then (if x9 < (x7.length : Int) then (if (rd x7 x9) = x1 then (some true) else (rectolaw31_has.l0 k x1 x7 x8 (wrap64 (x9 + 1)))) else (none)) else (none)) else (some false)
def rectolaw31_has.f (k : Nat) (l0 : List Int) (a1 : Int) : Option (Bool) := rectolaw31_has.l0 k a1 l0 (l0.length : Int) 0
theorem rectolaw31_has.mono_l : ∀ k, (∀ y0 y1 y2 y3, LeO (rectolaw31_has.l0 k y0 y1 y2 y3) (rectolaw31_has.l0 (k + 1) y0 y1 y2 y3))
 | 0 => fun _ _ _ _ r h => by simp [rectolaw31_has.l0] at h
 | k + 1 => by
  have ih0 := rectolaw31_has.mono_l k
  · intro y0 y1 y2 y3
    unfold rectolaw31_has.l0
    repeat' first
    | (with_reducible exact ih0 _ _ _ _)
    | (with_reducible exact LeO.refl _)
    | (with_reducible exact LeO.none _)
    | (with_reducible refine LeO.ite ?_ ?_)
    | (with_reducible refine LeO.bind ?_ (fun _ => ?_))
    | exact ih0 _ _ _ _
    | exact LeO.none _
    | refine LeO.ite ?_ ?_
    | refine LeO.bind ?_ (fun _ => ?_)
theorem rectolaw31_has.mono : ∀ a0 a1 k, LeO (rectolaw31_has.f k a0 a1) (rectolaw31_has.f (k + 1) a0 a1) := by
 intro a0 a1 k
 have ih0 := rectolaw31_has.mono_l k; unfold rectolaw31_has.f
 repeat' first
  | (with_reducible exact ih0 _ _ _ _)
  | (with_reducible exact LeO.refl _)
  | (with_reducible exact LeO.none _)
  | (with_reducible refine LeO.ite ?_ ?_)
  | (with_reducible refine LeO.bind ?_ (fun _ => ?_))
  | exact ih0 _ _ _ _
  | exact LeO.none _
  | refine LeO.ite ?_ ?_
  | refine LeO.bind ?_ (fun _ => ?_)
set_option maxHeartbeats 8000000 in
set_option maxRecDepth 100000 in
theorem rectolaw31_has.calls (k : Nat) (A0 : Option Addr) (c0 : Nat) (l0 : List Int) (a1 : Int) (r : Bool) (w : World) (hr0 : Kd.C (Kd.int .i64) w A0 l0.length l0) (hc0 : l0.length ≤ c0) (h : rectolaw31_has.f k l0 a1 = some r) (HG : Aside0 (Laid w)) :
 Calls Tryd.prog 22 #[.slice A0 l0.length c0, .int .i64 a1] w fun e w' => e = .returned (.bool r) ∧ Drawn0 w w' := by
 have HR0 := Aside0.mk hr0; have HC0 := Aside0.mk hc0; clear hr0 hc0; have H : (rectolaw31_has.l0 k a1 l0 (l0.length : Int) 0) = some r := h; clear h; have H' := Aside0.mk H; clear H
 go_enter Tryd.func22, Tryd.ntmps22
 go_wp2
 go_loopg [9] k (fun kq v9 w' => ∃ (x9_1 : Int), v9 = .int .i64 x9_1 ∧ Aside0 (rectolaw31_has.l0 kq a1 l0 (l0.length : Int) x9_1 = some r) ∧ Aside0 (kq ≤ k) ∧ Drawn0 w w')
 case atStart => exact ⟨(0), qD118, H', ⟨Nat.le_refl _⟩, qD116⟩
 case round =>
  clear H'; (try clear c2); (try clear p2); obtain ⟨x9_1, rfl, HA, HK1, ⟨m1, rfl⟩⟩ := hrel
  cases gk with
  | zero => exact absurd HA.out (by simp [rectolaw31_has.l0])
  | succ k1 =>
   have H := HA.out; clear HA; simp only [rectolaw31_has.l0] at H
   by_cases c3 : x9_1 < (l0.length : Int)
   · rw [if_pos c3] at H
     have c3b0 : decide (x9_1 < (l0.length : Int)) = true := decide_eq_true c3; clear c3
     by_cases c4 : 0 ≤ x9_1
     · rw [if_pos c4] at H
       have c4b0 : decide (0 ≤ x9_1) = true := decide_eq_true c4; clear c4
       by_cases c5 : x9_1 < (l0.length : Int)
       · rw [if_pos c5] at H
         have c5b0 : decide (x9_1 < (l0.length : Int)) = true := decide_eq_true c5; clear c5
         by_cases c6 : (rd l0 x9_1) = a1
         · rw [if_pos c6] at H
           have c6b0 : ((rd l0 x9_1) == a1) = true := beq_iff_eq.mpr c6; have c6b1 : ((rd l0 x9_1) != a1) = false := bne_eq_false_iff_eq.mpr c6; clear c6; obtain rfl := Option.some.inj H; have p234 : 0 ≤ (x9_1 : Int) := of_decide_eq_true qD117; have q234 : x9_1 < (l0.length : Int) := of_decide_eq_true qD117; obtain ⟨ad234, e234, hx234_0⟩ := Kd.at_int HR0.out x9_1 p234 q234; cases e234; replace p234 := eq_true p234; replace q234 := eq_true q234
           go_wp2
           go_ret
           exact ⟨qD118, qD116⟩
         · rw [if_neg c6] at H
           have c6b0 : ((rd l0 x9_1) == a1) = false := beq_eq_false_iff_ne.mpr c6; have c6b1 : ((rd l0 x9_1) != a1) = true := bne_iff_ne.mpr c6; have H' := Aside0.mk H; clear H; have p234 : 0 ≤ (x9_1 : Int) := of_decide_eq_true qD117; have q234 : x9_1 < (l0.length : Int) := of_decide_eq_true qD117; obtain ⟨ad234, e234, hx234_0⟩ := Kd.at_int HR0.out x9_1 p234 q234; cases e234; replace p234 := eq_true p234; replace q234 := eq_true q234
           go_wp2
           go_roundg k1
           case measure => have := HK1.out; omega
           case rel => exact ⟨(wrap64 (x9_1 + 1)), qD118, H', ⟨by have := HK1.out; omega⟩, qD116⟩
       · rw [if_neg c5] at H
         exact absurd H (by simp)
     · rw [if_neg c4] at H
       exact absurd H (by simp)
   · rw [if_neg c3] at H
     have c3b0 : decide (x9_1 < (l0.length : Int)) = false := decide_eq_false c3; clear c3; obtain rfl := Option.some.inj H
     go_wp2
     go_ret
     exact ⟨qD118, qD116⟩

end Go.Proofs.YtgopimjfoppkmaaDoor.D
