/- Printed functions, each with a proof that the call answers so. -/
import Derived.Test.YtgopimjfoppkmaaDoorD0
import Derived.Test.YtgopimjfoppkmaaDoorD6
import Derived.Test.YtgopimjfoppkmaaDoorD7
import Derived.Test.YtgopimjfoppkmaaDoorD8
import Derived.Test.YtgopimjfoppkmaaDoorD9
import Derived.Test.YtgopimjfoppkmaaDoorD10
import Derived.Test.YtgopimjfoppkmaaDoorDLeaves
namespace Go.Proofs.YtgopimjfoppkmaaDoor.D
open Go.RowKit Go.Proofs.YtgopimjfoppkmaaDoorW.PrintWords Go.Proofs.YtgopimjfoppkmaaDoorW.PrintLast Go.Proofs.YtgopimjfoppkmaaDoorW.PrintMore
attribute [local go_sem] max2_int min2_int max_two min_two max_three min_three max_four min_four   -- for this text's walks alone
set_option linter.unusedVariables false
set_option linter.unusedSimpArgs false

theorem mRD11 {p q : Prop} (x : q) (h : q → p := by intro x_; (with_reducible repeat (first | apply Kd.R_alloc | apply Kd.R_drewN | apply Kd.R_drew)); exact x_) : p := h x
theorem mND11 {p q : Prop} (x : q) (h : q → p := by intro x_; (with_reducible repeat (first | apply Kd.N_alloc | apply Kd.N_drewN | apply Kd.N_drew)); exact x_) : p := h x
theorem qD110 {p : Prop} (h : p := by repeat (first | (with_reducible first | exact HB.out | apply below_alloc | apply pw_below_drewN | apply below_drew1) | exact HB.out)) : p := h
theorem qD111 {p : Prop} (h : p := by (try simp only [List.map_toArray, List.map_cons, List.map_nil]); first | done | rfl | (simp only [List.length_drop, List.length_take]; rfl)) : p := h
theorem qD112 {p : Prop} (h : p := by first | (with_reducible assumption) | assumption) : p := h
theorem qD113 {p : Prop} (h : p := by repeat (first | (with_reducible first | exact HB.out | apply below_alloc | apply pw_below_drewN | apply below_drew1 | refine below_set ?_ GE235.out) | exact HB.out)) : p := h
theorem qD114 {p : Prop} (h : p := by repeat (first | exact Drawn0.refl _ | apply Drawn0.step)) : p := h
theorem qD115 {p : Prop} (h : p := by first | rfl | (simp [errW_none, errW_some] <;> rfl) | (simp [*, errW_none, errW_some] <;> rfl)) : p := h
theorem qD116 {p : Prop} (h : p := by first | rfl | (simp; done) | (simp [*]; done)) : p := h
theorem qD117 {p : Prop} (h : p := by repeat (first | exact (Kd.N_reads' HO207.out).2.2 | (with_reducible refine Kd.C_alloc ?_ _) | (with_reducible refine Kd.C_drewN ?_ _) | (with_reducible refine Kd.C_drew ?_))) : p := h
theorem qD118 {p : Prop} (h : p := by first | (go_simp; done) | (go_simp; rfl)) : p := h
theorem qD119 {p : Prop} (h : p := by repeat (first | exact (Kd.N_reads' HO215.out).2.2 | (with_reducible refine Kd.C_alloc ?_ _) | (with_reducible refine Kd.C_drewN ?_ _) | (with_reducible refine Kd.C_drew ?_))) : p := h
theorem qD1110 {p : Prop} (h : p := by exact (Reps.one (show Kd.M (Kd.int .i64) _ _ _ 2 [.int .i64 2] from rfl) (Reps.one (show Kd.M (Kd.int .i64) _ _ _ 3 [.int .i64 3] from rfl) (Reps.none _ _)))) : p := h
theorem qD1111 {p : Prop} (h : p := by first | rfl | (simp only [*]; done) | (simp only [*]; rfl)) : p := h
theorem qD1112 {p : Prop} (h : p := by exact Aside0.mk (Laid.below HG.out qD110)) : p := h
/-! ### rectolaw31_four: function 8 -/
def rectolaw31_four.f (k : Nat)  : Option (Bool) := (some (([(⟨1, (⟨#[112]⟩ : ByteArray), 1, ([] : List Int)⟩ : S43), (⟨2, (⟨#[112]⟩ : ByteArray), 1, (([1] : List Int))⟩ : S43), (⟨3, (⟨#[112]⟩ : ByteArray), 1, (([1] : List Int))⟩ : S43)] : List (S43)) : List (S43))).bind fun y205 => ((dag_Base.f k y205 2 3).bind fun bt208 => ((dag_Add.f k y205 0 (⟨#[112]⟩ : ByteArray) 2 (([2, 3] : List Int))).bind fun bt213 => ((dag_Head.f k bt213.1 (⟨#[112]⟩ : ByteArray)).bind fun bt217 => ((dag_Check.f k y205).bind fun t219 => (if t219 = 0 then (if bt208.2 = true then (if bt208.1 = 1 then (if bt213.2 = 0 then (if (bt213.1.length : Int) = 4 then (if bt217.2 = true then (if bt217.1 = 4 then ((dag_Ancestors.f k bt213.1 4).bind fun t220 => ((rectoplain_Ints.f k t220 (([1, 2, 3, 4] : List Int))).bind fun t226 => (if t226 = true then ((dag_Leaves.f k y205 (⟨#[112]⟩ : ByteArray)).bind fun t227 => ((rectoplain_Ints.f k t227 (([2, 3] : List Int))).bind fun t233 => (some t233))) else (some false)))) else (some false)) else (some false)) else (some false)) else (some false)) else (some false)) else (some false)) else (some false))))))
theorem rectolaw31_four.mono : ∀ k, LeO (rectolaw31_four.f k ) (rectolaw31_four.f (k + 1) ) := by
 intro  k
 unfold rectolaw31_four.f
 repeat' first
  | (with_reducible exact dag_Add.mono _ _ _ _ _ _)
  | (with_reducible exact dag_Ancestors.mono _ _ _)
  | (with_reducible exact dag_Base.mono _ _ _ _)
  | (with_reducible exact dag_Check.mono _ _)
  | (with_reducible exact dag_Head.mono _ _ _)
  | (with_reducible exact dag_Leaves.mono _ _ _)
  | (with_reducible exact rectoplain_Ints.mono _ _ _)
  | (with_reducible exact LeO.refl _)
  | (with_reducible exact LeO.none _)
  | (with_reducible refine LeO.ite ?_ ?_)
  | (with_reducible refine LeO.bind ?_ (fun _ => ?_))
  | exact dag_Add.mono _ _ _ _ _ _
  | exact dag_Ancestors.mono _ _ _
  | exact dag_Base.mono _ _ _ _
  | exact dag_Check.mono _ _
  | exact dag_Head.mono _ _ _
  | exact dag_Leaves.mono _ _ _
  | exact rectoplain_Ints.mono _ _ _
  | exact LeO.none _
  | refine LeO.ite ?_ ?_
  | refine LeO.bind ?_ (fun _ => ?_)
set_option maxHeartbeats 8000000 in
set_option maxRecDepth 100000 in
theorem rectolaw31_four.calls_true (k : Nat)  (r : Bool) (w : World) (h : rectolaw31_four.f k  = some r) (HG : Aside0 (Laid w)) (hr_ : Aside0 (r = true)) :
 Calls Tryd.prog 8 #[] w fun e w' => e = .returned (.bool r) ∧ Below w.heap.size w w' := by
 have hu43 := Tryd.underlying43; have HB := Aside0.mk (Below.refl w.heap.size w)
 have H : ((some (([(⟨1, (⟨#[112]⟩ : ByteArray), 1, ([] : List Int)⟩ : S43), (⟨2, (⟨#[112]⟩ : ByteArray), 1, (([1] : List Int))⟩ : S43), (⟨3, (⟨#[112]⟩ : ByteArray), 1, (([1] : List Int))⟩ : S43)] : List (S43)) : List (S43))).bind fun y205 => ((dag_Base.f k y205 2 3).bind fun bt208 => ((dag_Add.f k y205 0 (⟨#[112]⟩ : ByteArray) 2 (([2, 3] : List Int))).bind fun bt213 => ((dag_Head.f k bt213.1 (⟨#[112]⟩ : ByteArray)).bind fun bt217 => ((dag_Check.f k y205).bind fun t219 => (if t219 = 0 then (if bt208.2 = true then (if bt208.1 = 1 then (if bt213.2 = 0 then (if (bt213.1.length : Int) = 4 then (if bt217.2 = true then (if bt217.1 = 4 then ((dag_Ancestors.f k bt213.1 4).bind fun t220 => ((rectoplain_Ints.f k t220 (([1, 2, 3, 4] : List Int))).bind fun t226 => (if t226 = true then ((dag_Leaves.f k y205 (⟨#[112]⟩ : ByteArray)).bind fun t227 => ((rectoplain_Ints.f k t227 (([2, 3] : List Int))).bind fun t233 => (some t233))) else (some false)))) else (some false)) else (some false)) else (some false)) else (some false)) else (some false)) else (some false)) else (some false))))))) = some r := h
 clear h; obtain ⟨y199, hy199⟩ : ∃ y_ : List Int, y_ = (([1] : List Int)) := ⟨_, rfl⟩
 replace H : ((some (([(⟨1, (⟨#[112]⟩ : ByteArray), 1, ([] : List Int)⟩ : S43), (⟨2, (⟨#[112]⟩ : ByteArray), 1, y199⟩ : S43), (⟨3, (⟨#[112]⟩ : ByteArray), 1, (([1] : List Int))⟩ : S43)] : List (S43)) : List (S43))).bind fun y205 => ((dag_Base.f k y205 2 3).bind fun bt208 => ((dag_Add.f k y205 0 (⟨#[112]⟩ : ByteArray) 2 (([2, 3] : List Int))).bind fun bt213 => ((dag_Head.f k bt213.1 (⟨#[112]⟩ : ByteArray)).bind fun bt217 => ((dag_Check.f k y205).bind fun t219 => (if t219 = 0 then (if bt208.2 = true then (if bt208.1 = 1 then (if bt213.2 = 0 then (if (bt213.1.length : Int) = 4 then (if bt217.2 = true then (if bt217.1 = 4 then ((dag_Ancestors.f k bt213.1 4).bind fun t220 => ((rectoplain_Ints.f k t220 (([1, 2, 3, 4] : List Int))).bind fun t226 => (if t226 = true then ((dag_Leaves.f k y205 (⟨#[112]⟩ : ByteArray)).bind fun t227 => ((rectoplain_Ints.f k t227 (([2, 3] : List Int))).bind fun t233 => (some t233))) else (some false)))) else (some false)) else (some false)) else (some false)) else (some false)) else (some false)) else (some false)) else (some false))))))) = some r := by first | (rw [hy199]; with_reducible exact H) | (have H2_ := (Option.bind_some _ _).symm.trans H; rw [hy199]; with_reducible exact H2_) | (have H2_ := (Option.bind_some _ _).symm.trans H; with_reducible exact H2_) | with_reducible exact H | (rw [hy199]; exact H) | exact H
 have Ny199 := Aside0.mk hy199; clear hy199; obtain ⟨y202, hy202⟩ : ∃ y_ : List Int, y_ = (([1] : List Int)) := ⟨_, rfl⟩
 replace H : ((some (([(⟨1, (⟨#[112]⟩ : ByteArray), 1, ([] : List Int)⟩ : S43), (⟨2, (⟨#[112]⟩ : ByteArray), 1, y199⟩ : S43), (⟨3, (⟨#[112]⟩ : ByteArray), 1, y202⟩ : S43)] : List (S43)) : List (S43))).bind fun y205 => ((dag_Base.f k y205 2 3).bind fun bt208 => ((dag_Add.f k y205 0 (⟨#[112]⟩ : ByteArray) 2 (([2, 3] : List Int))).bind fun bt213 => ((dag_Head.f k bt213.1 (⟨#[112]⟩ : ByteArray)).bind fun bt217 => ((dag_Check.f k y205).bind fun t219 => (if t219 = 0 then (if bt208.2 = true then (if bt208.1 = 1 then (if bt213.2 = 0 then (if (bt213.1.length : Int) = 4 then (if bt217.2 = true then (if bt217.1 = 4 then ((dag_Ancestors.f k bt213.1 4).bind fun t220 => ((rectoplain_Ints.f k t220 (([1, 2, 3, 4] : List Int))).bind fun t226 => (if t226 = true then ((dag_Leaves.f k y205 (⟨#[112]⟩ : ByteArray)).bind fun t227 => ((rectoplain_Ints.f k t227 (([2, 3] : List Int))).bind fun t233 => (some t233))) else (some false)))) else (some false)) else (some false)) else (some false)) else (some false)) else (some false)) else (some false)) else (some false))))))) = some r := by first | (rw [hy202]; with_reducible exact H) | (have H2_ := (Option.bind_some _ _).symm.trans H; rw [hy202]; with_reducible exact H2_) | (have H2_ := (Option.bind_some _ _).symm.trans H; with_reducible exact H2_) | with_reducible exact H | (rw [hy202]; exact H) | exact H
 have Ny202 := Aside0.mk hy202; clear hy202; obtain ⟨y205, hy205⟩ : ∃ y_ : List (S43), y_ = (([(⟨1, (⟨#[112]⟩ : ByteArray), 1, ([] : List Int)⟩ : S43), (⟨2, (⟨#[112]⟩ : ByteArray), 1, y199⟩ : S43), (⟨3, (⟨#[112]⟩ : ByteArray), 1, y202⟩ : S43)] : List (S43))) := ⟨_, rfl⟩
 replace H : ((dag_Base.f k y205 2 3).bind fun bt208 => ((dag_Add.f k y205 0 (⟨#[112]⟩ : ByteArray) 2 (([2, 3] : List Int))).bind fun bt213 => ((dag_Head.f k bt213.1 (⟨#[112]⟩ : ByteArray)).bind fun bt217 => ((dag_Check.f k y205).bind fun t219 => (if t219 = 0 then (if bt208.2 = true then (if bt208.1 = 1 then (if bt213.2 = 0 then (if (bt213.1.length : Int) = 4 then (if bt217.2 = true then (if bt217.1 = 4 then ((dag_Ancestors.f k bt213.1 4).bind fun t220 => ((rectoplain_Ints.f k t220 (([1, 2, 3, 4] : List Int))).bind fun t226 => (if t226 = true then ((dag_Leaves.f k y205 (⟨#[112]⟩ : ByteArray)).bind fun t227 => ((rectoplain_Ints.f k t227 (([2, 3] : List Int))).bind fun t233 => (some t233))) else (some false)))) else (some false)) else (some false)) else (some false)) else (some false)) else (some false)) else (some false)) else (some false)))))) = some r := by first | (rw [hy205]; with_reducible exact H) | (have H2_ := (Option.bind_some _ _).symm.trans H; rw [hy205]; with_reducible exact H2_) | (have H2_ := (Option.bind_some _ _).symm.trans H; with_reducible exact H2_) | with_reducible exact H | (rw [hy205]; exact H) | exact H
 have Ny205 := Aside0.mk hy205; clear hy205; replace H := Option.bind_eq_some_iff.mp H; obtain ⟨⟨t208, t209⟩, A10, H⟩ := H
 replace H : ((dag_Add.f k y205 0 (⟨#[112]⟩ : ByteArray) 2 (([2, 3] : List Int))).bind fun bt213 => ((dag_Head.f k bt213.1 (⟨#[112]⟩ : ByteArray)).bind fun bt217 => ((dag_Check.f k y205).bind fun t219 => (if t219 = 0 then (if t209 = true then (if t208 = 1 then (if bt213.2 = 0 then (if (bt213.1.length : Int) = 4 then (if bt217.2 = true then (if bt217.1 = 4 then ((dag_Ancestors.f k bt213.1 4).bind fun t220 => ((rectoplain_Ints.f k t220 (([1, 2, 3, 4] : List Int))).bind fun t226 => (if t226 = true then ((dag_Leaves.f k y205 (⟨#[112]⟩ : ByteArray)).bind fun t227 => ((rectoplain_Ints.f k t227 (([2, 3] : List Int))).bind fun t233 => (some t233))) else (some false)))) else (some false)) else (some false)) else (some false)) else (some false)) else (some false)) else (some false)) else (some false))))) = some r := H
 have A1 := Aside0.mk A10; clear A10; obtain ⟨y210, hy210⟩ : ∃ y_ : List Int, y_ = (([2, 3] : List Int)) := ⟨_, rfl⟩
 replace H : ((dag_Add.f k y205 0 (⟨#[112]⟩ : ByteArray) 2 y210).bind fun bt213 => ((dag_Head.f k bt213.1 (⟨#[112]⟩ : ByteArray)).bind fun bt217 => ((dag_Check.f k y205).bind fun t219 => (if t219 = 0 then (if t209 = true then (if t208 = 1 then (if bt213.2 = 0 then (if (bt213.1.length : Int) = 4 then (if bt217.2 = true then (if bt217.1 = 4 then ((dag_Ancestors.f k bt213.1 4).bind fun t220 => ((rectoplain_Ints.f k t220 (([1, 2, 3, 4] : List Int))).bind fun t226 => (if t226 = true then ((dag_Leaves.f k y205 (⟨#[112]⟩ : ByteArray)).bind fun t227 => ((rectoplain_Ints.f k t227 (([2, 3] : List Int))).bind fun t233 => (some t233))) else (some false)))) else (some false)) else (some false)) else (some false)) else (some false)) else (some false)) else (some false)) else (some false))))) = some r := by first | (rw [hy210]; with_reducible exact H) | (have H2_ := (Option.bind_some _ _).symm.trans H; rw [hy210]; with_reducible exact H2_) | (have H2_ := (Option.bind_some _ _).symm.trans H; with_reducible exact H2_) | with_reducible exact H | (rw [hy210]; exact H) | exact H
 have Ny210 := Aside0.mk hy210; clear hy210; replace H := Option.bind_eq_some_iff.mp H; obtain ⟨⟨t213, t216⟩, A20, H⟩ := H
 replace H : ((dag_Head.f k t213 (⟨#[112]⟩ : ByteArray)).bind fun bt217 => ((dag_Check.f k y205).bind fun t219 => (if t219 = 0 then (if t209 = true then (if t208 = 1 then (if t216 = 0 then (if (t213.length : Int) = 4 then (if bt217.2 = true then (if bt217.1 = 4 then ((dag_Ancestors.f k t213 4).bind fun t220 => ((rectoplain_Ints.f k t220 (([1, 2, 3, 4] : List Int))).bind fun t226 => (if t226 = true then ((dag_Leaves.f k y205 (⟨#[112]⟩ : ByteArray)).bind fun t227 => ((rectoplain_Ints.f k t227 (([2, 3] : List Int))).bind fun t233 => (some t233))) else (some false)))) else (some false)) else (some false)) else (some false)) else (some false)) else (some false)) else (some false)) else (some false)))) = some r := H
 have A2 := Aside0.mk A20; clear A20; replace H := Option.bind_eq_some_iff.mp H; obtain ⟨⟨t217, t218⟩, A30, H⟩ := H
 replace H : ((dag_Check.f k y205).bind fun t219 => (if t219 = 0 then (if t209 = true then (if t208 = 1 then (if t216 = 0 then (if (t213.length : Int) = 4 then (if t218 = true then (if t217 = 4 then ((dag_Ancestors.f k t213 4).bind fun t220 => ((rectoplain_Ints.f k t220 (([1, 2, 3, 4] : List Int))).bind fun t226 => (if t226 = true then ((dag_Leaves.f k y205 (⟨#[112]⟩ : ByteArray)).bind fun t227 => ((rectoplain_Ints.f k t227 (([2, 3] : List Int))).bind fun t233 => (some t233))) else (some false)))) else (some false)) else (some false)) else (some false)) else (some false)) else (some false)) else (some false)) else (some false))) = some r := H
 have A3 := Aside0.mk A30; clear A30; replace H := Option.bind_eq_some_iff.mp H; obtain ⟨t219, A40, H⟩ := H
 replace H : (if t219 = 0 then (if t209 = true then (if t208 = 1 then (if t216 = 0 then (if (t213.length : Int) = 4 then (if t218 = true then (if t217 = 4 then ((dag_Ancestors.f k t213 4).bind fun t220 => ((rectoplain_Ints.f k t220 (([1, 2, 3, 4] : List Int))).bind fun t226 => (if t226 = true then ((dag_Leaves.f k y205 (⟨#[112]⟩ : ByteArray)).bind fun t227 => ((rectoplain_Ints.f k t227 (([2, 3] : List Int))).bind fun t233 => (some t233))) else (some false)))) else (some false)) else (some false)) else (some false)) else (some false)) else (some false)) else (some false)) else (some false)) = some r := H
 have A4 := Aside0.mk A40; clear A40
 by_cases c5 : t219 = 0
 · rw [if_pos c5] at H
   have c5b0 : (t219 == 0) = true := beq_iff_eq.mpr c5; have c5b1 : (t219 != 0) = false := bne_eq_false_iff_eq.mpr c5; clear c5
   by_cases c6 : t209 = true
   · subst c6
     have H1 : (if t208 = 1 then (if t216 = 0 then (if (t213.length : Int) = 4 then (if t218 = true then (if t217 = 4 then ((dag_Ancestors.f k t213 4).bind fun t220 => ((rectoplain_Ints.f k t220 (([1, 2, 3, 4] : List Int))).bind fun t226 => (if t226 = true then ((dag_Leaves.f k y205 (⟨#[112]⟩ : ByteArray)).bind fun t227 => ((rectoplain_Ints.f k t227 (([2, 3] : List Int))).bind fun t233 => (some t233))) else (some false)))) else (some false)) else (some false)) else (some false)) else (some false)) else (some false)) = some r := by rw [if_pos rfl] at H; exact H
     clear H; have H := H1; clear H1
     by_cases c7 : t208 = 1
     · rw [if_pos c7] at H
       have c7b0 : (t208 == 1) = true := beq_iff_eq.mpr c7; have c7b1 : (t208 != 1) = false := bne_eq_false_iff_eq.mpr c7; clear c7
       by_cases c8 : t216 = 0
       · rw [if_pos c8] at H
         have c8b0 : (t216 == 0) = true := beq_iff_eq.mpr c8; have c8b1 : (t216 != 0) = false := bne_eq_false_iff_eq.mpr c8; clear c8
         by_cases c9 : (t213.length : Int) = 4
         · rw [if_pos c9] at H
           have c9b0 : ((t213.length : Int) == 4) = true := beq_iff_eq.mpr c9; have c9b1 : ((t213.length : Int) != 4) = false := bne_eq_false_iff_eq.mpr c9; clear c9
           by_cases c10 : t218 = true
           · subst c10
             have H1 : (if t217 = 4 then ((dag_Ancestors.f k t213 4).bind fun t220 => ((rectoplain_Ints.f k t220 (([1, 2, 3, 4] : List Int))).bind fun t226 => (if t226 = true then ((dag_Leaves.f k y205 (⟨#[112]⟩ : ByteArray)).bind fun t227 => ((rectoplain_Ints.f k t227 (([2, 3] : List Int))).bind fun t233 => (some t233))) else (some false)))) else (some false)) = some r := by rw [if_pos rfl] at H; exact H
             clear H; have H := H1; clear H1
             by_cases c11 : t217 = 4
             · rw [if_pos c11] at H
               have c11b0 : (t217 == 4) = true := beq_iff_eq.mpr c11; have c11b1 : (t217 != 4) = false := bne_eq_false_iff_eq.mpr c11; clear c11; replace H := Option.bind_eq_some_iff.mp H; obtain ⟨t220, A120, H⟩ := H
               replace H : ((rectoplain_Ints.f k t220 (([1, 2, 3, 4] : List Int))).bind fun t226 => (if t226 = true then ((dag_Leaves.f k y205 (⟨#[112]⟩ : ByteArray)).bind fun t227 => ((rectoplain_Ints.f k t227 (([2, 3] : List Int))).bind fun t233 => (some t233))) else (some false))) = some r := H
               have A12 := Aside0.mk A120; clear A120; obtain ⟨y223, hy223⟩ : ∃ y_ : List Int, y_ = (([1, 2, 3, 4] : List Int)) := ⟨_, rfl⟩
               replace H : ((rectoplain_Ints.f k t220 y223).bind fun t226 => (if t226 = true then ((dag_Leaves.f k y205 (⟨#[112]⟩ : ByteArray)).bind fun t227 => ((rectoplain_Ints.f k t227 (([2, 3] : List Int))).bind fun t233 => (some t233))) else (some false))) = some r := by first | (rw [hy223]; with_reducible exact H) | (have H2_ := (Option.bind_some _ _).symm.trans H; rw [hy223]; with_reducible exact H2_) | (have H2_ := (Option.bind_some _ _).symm.trans H; with_reducible exact H2_) | with_reducible exact H | (rw [hy223]; exact H) | exact H
               have Ny223 := Aside0.mk hy223; clear hy223; replace H := Option.bind_eq_some_iff.mp H; obtain ⟨t226, A130, H⟩ := H
               replace H : (if t226 = true then ((dag_Leaves.f k y205 (⟨#[112]⟩ : ByteArray)).bind fun t227 => ((rectoplain_Ints.f k t227 (([2, 3] : List Int))).bind fun t233 => (some t233))) else (some false)) = some r := H
               have A13 := Aside0.mk A130; clear A130
               by_cases c14 : t226 = true
               · subst c14
                 have H1 : ((dag_Leaves.f k y205 (⟨#[112]⟩ : ByteArray)).bind fun t227 => ((rectoplain_Ints.f k t227 (([2, 3] : List Int))).bind fun t233 => (some t233))) = some r := by rw [if_pos rfl] at H; exact H
                 clear H; have H := H1; clear H1; replace H := Option.bind_eq_some_iff.mp H; obtain ⟨t227, A150, H⟩ := H
                 replace H : ((rectoplain_Ints.f k t227 (([2, 3] : List Int))).bind fun t233 => (some t233)) = some r := H
                 have A15 := Aside0.mk A150; clear A150; obtain ⟨y230, hy230⟩ : ∃ y_ : List Int, y_ = (([2, 3] : List Int)) := ⟨_, rfl⟩
                 replace H : ((rectoplain_Ints.f k t227 y230).bind fun t233 => (some t233)) = some r := by first | (rw [hy230]; with_reducible exact H) | (have H2_ := (Option.bind_some _ _).symm.trans H; rw [hy230]; with_reducible exact H2_) | (have H2_ := (Option.bind_some _ _).symm.trans H; with_reducible exact H2_) | with_reducible exact H | (rw [hy230]; exact H) | exact H
                 have Ny230 := Aside0.mk hy230; clear hy230; replace H := Option.bind_eq_some_iff.mp H; obtain ⟨t233, A160, H⟩ := H; replace H : (some t233) = some r := H; have A16 := Aside0.mk A160; clear A160; obtain rfl := Option.some.inj H
                 go_enter Tryd.func8, Tryd.ntmps8
                 go_wp2_with (first | ((with_reducible refine gate_dst (N := 9) rfl ?_); (try (refine gate_guard (by rfl) ?_; dsimp only)); refine Kd.R_lit (Kd.int .i64) _ 3 ?hg (N := 9) ?hd (xs := ([1] : List Int)) (inner := [.int .i64 1]) (ok := fun _ => True) (okp := fun _ => True) ?hr ?hp (fun _ hk => hk) trivial (Below.refl _ _) (Nat.le_refl _) (by simp) ?_; (case hd => rfl); (case hg => rfl); (case hr => exact qD118); (case hp => exact (Reps.one (show Kd.M (Kd.int .i64) _ _ _ 1 [.int .i64 1] from rfl) (Reps.none _ _))); intro v200 w17 ho18 hb hg_ hnew_; clear hg_ hnew_; (first | rw [← Ny199.out] at ho18 | (simp only [Int.reduceToNat] at ho18; rw [← Ny199.out] at ho18)); have n0_ := Aside0.mk (Kd.R_lower ho18 (below_size qD110)); have n1_ := Aside0.mk (below_step qD110 hb); clear HB; have HO201 := n0_; have HB := n1_; clear n0_ n1_; clear hb ho18; obtain ⟨Ao19, co19, eo19⟩ := Kd.R_slice HO201.out; subst eo19) | ((with_reducible refine gate_dst (N := 11) rfl ?_); (try (refine gate_guard (by rfl) ?_; dsimp only)); refine Kd.R_lit (Kd.int .i64) _ 3 ?hg (N := 11) ?hd (xs := ([1] : List Int)) (inner := [.int .i64 1]) (ok := fun _ => True) (okp := fun _ => True) ?hr ?hp (fun _ hk => hk) trivial (Below.refl _ _) (Nat.le_refl _) (by simp) ?_; (case hd => rfl); (case hg => rfl); (case hr => exact qD118); (case hp => exact (Reps.one (show Kd.M (Kd.int .i64) _ _ _ 1 [.int .i64 1] from rfl) (Reps.none _ _))); intro v203 w20 ho21 hb hg_ hnew_; clear hg_ hnew_; (first | rw [← Ny202.out] at ho21 | (simp only [Int.reduceToNat] at ho21; rw [← Ny202.out] at ho21)); have n0_ := Aside0.mk (Kd.R_elder' (mRD11 HO201.out) (Kd.R_base ho21) hb); have n1_ := Aside0.mk (Kd.R_lower (Kd.R_new' ho21 (Kd.R_lt (mRD11 HO201.out))) (below_size qD110)); have n2_ := Aside0.mk (below_step qD110 hb); clear HO201; clear HB; have HO201 := n0_; have HO204 := n1_; have HB := n2_; clear n0_ n1_ n2_; clear hb ho21; obtain ⟨Ao22, co22, eo22⟩ := Kd.R_slice HO204.out; subst eo22) | ((with_reducible refine gate_dst (N := 13) rfl ?_); (try (refine gate_guard (by rfl) ?_; dsimp only)); refine Kd.N_lit k43 _ 43 ?hg (N' := 13) ?hd (xs := ([(⟨1, (⟨#[112]⟩ : ByteArray), 1, ([] : List Int)⟩ : S43), (⟨2, (⟨#[112]⟩ : ByteArray), 1, y199⟩ : S43), (⟨3, (⟨#[112]⟩ : ByteArray), 1, y202⟩ : S43)] : List (S43))) (inner := [.int .i64 1, .string (⟨#[112]⟩ : ByteArray), .int .i64 1, .slice none 0 0, .int .i64 2, .string (⟨#[112]⟩ : ByteArray), .int .i64 1, .slice Ao19 y199.length co19, .int .i64 3, .string (⟨#[112]⟩ : ByteArray), .int .i64 1, .slice Ao22 y202.length co22]) (ok := (fun _ => True)) (okp := (fun _ => True)) ?hr ?hp (fun _ hk => hk) ((show ∀ k_, w20.heap.size ≤ k_ → (fun _ => True) k_ from fun k_ hk => trivial) _ (Nat.le_refl _)) (Below.refl _ _) (Nat.le_refl _) (by simp) ?_; (case hd => rfl); (case hg => rfl); (case hr => exact qD118); (case hp => exact (Reps.c4 (show Kd.FK k43 _ _ (⟨1, (⟨#[112]⟩ : ByteArray), 1, ([] : List Int)⟩ : S43) [.int .i64 1, .string (⟨#[112]⟩ : ByteArray), .int .i64 1, .slice none 0 0] from (k43_mkF _ _ (⟨1, (⟨#[112]⟩ : ByteArray), 1, ([] : List Int)⟩ : S43) (Nat.le_refl _) (Kd.F_nil _ _ _))) (Reps.c4 (show Kd.FK k43 _ _ (⟨2, (⟨#[112]⟩ : ByteArray), 1, y199⟩ : S43) [.int .i64 2, .string (⟨#[112]⟩ : ByteArray), .int .i64 1, .slice Ao19 y199.length co19] from (k43_mkF _ _ (⟨2, (⟨#[112]⟩ : ByteArray), 1, y199⟩ : S43) (Kd.R_reads' (Kd.R_mono (ok' := (fun _ => True)) (HO201.out) (fun k_ hk => trivial))).2.1 (Kd.R_F (Kd.R_mono (ok' := (fun _ => True)) (HO201.out) (fun k_ hk => trivial))))) (Reps.c4 (show Kd.FK k43 _ _ (⟨3, (⟨#[112]⟩ : ByteArray), 1, y202⟩ : S43) [.int .i64 3, .string (⟨#[112]⟩ : ByteArray), .int .i64 1, .slice Ao22 y202.length co22] from (k43_mkF _ _ (⟨3, (⟨#[112]⟩ : ByteArray), 1, y202⟩ : S43) (Kd.R_reads' (Kd.R_mono (ok' := (fun _ => True)) (HO204.out) (fun k_ hk => trivial))).2.1 (Kd.R_F (Kd.R_mono (ok' := (fun _ => True)) (HO204.out) (fun k_ hk => trivial))))) (Reps.none _ _))))); intro v206 w23 ho24 hb hg_ hnew_; clear hg_ hnew_; (first | rw [← Ny205.out] at ho24 | (simp only [Int.reduceToNat] at ho24; rw [← Ny205.out] at ho24)); have n0_ := Aside0.mk (Kd.N_lower ho24 (below_size qD110)); have n1_ := Aside0.mk (below_step qD110 hb); clear HB; clear HO201; clear HO204; have HO207 := n0_; have HB := n1_; clear n0_ n1_; clear hb ho24; obtain ⟨Ao25, co25, eo25⟩ := Kd.N_slice HO207.out; subst eo25) | ((with_reducible refine gate_callee (f := 18) rfl ?_); refine goesL_ (some 16) rfl rfl Tryd.func18 (by kernel_rfl) rfl #[.slice Ao25 y205.length co25, .int .i64 2, .int .i64 3] rfl qD111 ?_; (with_reducible refine (dag_Base.calls k _ _ y205 2 3 t208 true _ ?side1 ?side2 A1.out ?side3).mono ?_); (case side1 => exact qD117); (case side2 => exact (Kd.N_reads' HO207.out).2.1); (case side3 => exact qD1112); rintro e w26 ⟨rfl, hb⟩; refine ⟨_, rfl, ?_⟩; have n0_ := Aside0.mk (Kd.N_below (mND11 HO207.out) hb); have n1_ := Aside0.mk (below_step qD110 hb); clear HO207; clear HB; have HO207 := n0_; have HB := n1_; clear n0_ n1_; (try clear hb); (try clear hb2); (try clear hk); (try clear hi)) | ((with_reducible refine gate_dst (N := 21) rfl ?_); (try (refine gate_guard (by rfl) ?_; dsimp only)); refine Kd.R_lit (Kd.int .i64) _ 3 ?hg (N := 21) ?hd (xs := ([2, 3] : List Int)) (inner := [.int .i64 2, .int .i64 3]) (ok := fun _ => True) (okp := fun _ => True) ?hr ?hp (fun _ hk => hk) trivial (Below.refl _ _) (Nat.le_refl _) (by simp) ?_; (case hd => rfl); (case hg => rfl); (case hr => exact qD118); (case hp => exact qD1110); intro v211 w27 ho28 hb hg_ hnew_; clear hg_ hnew_; (first | rw [← Ny210.out] at ho28 | (simp only [Int.reduceToNat] at ho28; rw [← Ny210.out] at ho28)); have n0_ := Aside0.mk (Kd.N_elder' (mND11 HO207.out) (Kd.R_base ho28) hb); have n1_ := Aside0.mk (Kd.R_lower ho28 (below_size qD110)); have n2_ := Aside0.mk (below_step qD110 hb); clear HO207; clear HB; have HO207 := n0_; have HO212 := n1_; have HB := n2_; clear n0_ n1_ n2_; clear hb ho28; obtain ⟨Ao29, co29, eo29⟩ := Kd.R_slice HO212.out; subst eo29) | ((with_reducible refine gate_callee (f := 23) rfl ?_); refine goesL_ (some 23) rfl rfl Tryd.func23 (by kernel_rfl) rfl #[.slice Ao25 y205.length co25, .agg #[.int .i64 0, .string (⟨#[112]⟩ : ByteArray), .int .i64 2, .slice Ao29 y210.length co29]] rfl qD111 ?_; (with_reducible refine (dag_Add.calls k (fun k_ => (True ∧ some k_ ≠ (.slice Ao29 y210.length co29 : Value).ownBlock)) _ _ y205 0 (⟨#[112]⟩ : ByteArray) 2 (fun k_ => some k_ = (.slice Ao29 y210.length co29 : Value).ownBlock) _ _ y210 t213 t216 _ ?side1 ?side2 A2.out ?side3).mono ?_); (case side1 => exact Kd.N_V (HO207.out)); (case side2 => exact Kd.R_V (Kd.R_tight rfl (Kd.R_apart' (HO212.out) (Kd.N_typed HO207.out) (by decide)))); (case side3 => exact qD1112); rintro e w30 ⟨v214, rfl, ho0, hb⟩; refine ⟨_, rfl, ?_⟩; have n0_ := Aside0.mk (Kd.N_elder' (mND11 HO207.out) (Kd.N_base ho0) hb); have n1_ := Aside0.mk (Kd.R_below (mRD11 HO212.out) hb); have n2_ := Aside0.mk (Kd.N_lower (Kd.N_mono (ok' := fun k_ => True) ho0 (fun k_ hk_ => trivial)) (below_size qD110)); have n3_ := Aside0.mk (below_step qD110 hb); clear HO207; clear HO212; clear HB; have HO207 := n0_; have HO212 := n1_; have HO215 := n2_; have HB := n3_; clear n0_ n1_ n2_ n3_; (try clear hb); (try clear hb2); (try clear hk); (try clear hi); (try clear ho0); obtain ⟨Ao31, co31, eo31⟩ := Kd.N_slice HO215.out; subst eo31) | ((with_reducible refine gate_callee (f := 10) rfl ?_); refine goesL_ (some 28) rfl rfl Tryd.func10 (by kernel_rfl) rfl #[.slice Ao31 t213.length co31, .string (⟨#[112]⟩ : ByteArray)] rfl qD111 ?_; (with_reducible refine (dag_Head.calls k _ _ t213 (⟨#[112]⟩ : ByteArray) t217 true _ ?side1 ?side2 A3.out ?side3).mono ?_); (case side1 => exact qD119); (case side2 => exact (Kd.N_reads' HO215.out).2.1); (case side3 => exact qD1112); rintro e w32 ⟨rfl, hb⟩; refine ⟨_, rfl, ?_⟩; have n0_ := Aside0.mk (Kd.N_below (mND11 HO207.out) hb); have n1_ := Aside0.mk (Kd.R_below (mRD11 HO212.out) hb); have n2_ := Aside0.mk (Kd.N_below (mND11 HO215.out) hb); have n3_ := Aside0.mk (below_step qD110 hb); clear HO207; clear HO212; clear HO215; clear HB; have HO207 := n0_; have HO212 := n1_; have HO215 := n2_; have HB := n3_; clear n0_ n1_ n2_ n3_; (try clear hb); (try clear hb2); (try clear hk); (try clear hi)) | ((with_reducible refine gate_callee (f := 21) rfl ?_); refine goesL_ (some 32) rfl rfl Tryd.func21 (by kernel_rfl) rfl #[.slice Ao25 y205.length co25] rfl qD111 ?_; (with_reducible refine (dag_Check.calls k _ _ y205 t219 _ ?side1 ?side2 A4.out ?side3).mono ?_); (case side1 => exact qD117); (case side2 => exact (Kd.N_reads' HO207.out).2.1); (case side3 => exact qD1112); rintro e w33 ⟨rfl, hb⟩; refine ⟨_, rfl, ?_⟩; have n0_ := Aside0.mk (Kd.N_below (mND11 HO207.out) hb); have n1_ := Aside0.mk (Kd.R_below (mRD11 HO212.out) hb); have n2_ := Aside0.mk (Kd.N_below (mND11 HO215.out) hb); have n3_ := Aside0.mk (below_step qD110 hb); clear HO207; clear HO212; clear HO215; clear HB; have HO207 := n0_; have HO212 := n1_; have HO215 := n2_; have HB := n3_; clear n0_ n1_ n2_ n3_; (try clear hb); (try clear hb2); (try clear hk); (try clear hi)) | (go_at_call 17; (with_reducible refine (dag_Ancestors.calls k _ _ t213 4 t220 _ ?side1 ?side2 A12.out ?side3).mono ?_); (case side1 => exact qD119); (case side2 => exact (Kd.N_reads' HO215.out).2.1); (case side3 => exact qD1112); rintro e w34 ⟨v221, rfl, ho0, hb⟩; have n0_ := Aside0.mk (Kd.N_elder' (mND11 HO207.out) (Kd.R_base ho0) hb); have n1_ := Aside0.mk (Kd.R_elder' (mRD11 HO212.out) (Kd.R_base ho0) hb); have n2_ := Aside0.mk (Kd.N_elder' (mND11 HO215.out) (Kd.R_base ho0) hb); have n3_ := Aside0.mk (Kd.R_lower (Kd.R_new' ho0 (Kd.R_lt (mRD11 HO212.out))) (below_size qD110)); have n4_ := Aside0.mk (below_step qD110 hb); clear HO207; clear HO212; clear HO215; clear HB; have HO207 := n0_; have HO212 := n1_; have HO215 := n2_; have HO222 := n3_; have HB := n4_; clear n0_ n1_ n2_ n3_ n4_; (try clear hb); (try clear hb2); (try clear hk); (try clear hi); (try clear ho0)) | ((with_reducible refine gate_dst (N := 60) rfl ?_); (try (refine gate_guard (by rfl) ?_; dsimp only)); refine Kd.R_lit (Kd.int .i64) _ 3 ?hg (N := 60) ?hd (xs := ([1, 2, 3, 4] : List Int)) (inner := [.int .i64 1, .int .i64 2, .int .i64 3, .int .i64 4]) (ok := fun _ => True) (okp := fun _ => True) ?hr ?hp (fun _ hk => hk) trivial (Below.refl _ _) (Nat.le_refl _) (by simp) ?_; (case hd => rfl); (case hg => rfl); (case hr => exact qD118); (case hp => exact (Reps.one (show Kd.M (Kd.int .i64) _ _ _ 1 [.int .i64 1] from rfl) (Reps.one (show Kd.M (Kd.int .i64) _ _ _ 2 [.int .i64 2] from rfl) (Reps.one (show Kd.M (Kd.int .i64) _ _ _ 3 [.int .i64 3] from rfl) (Reps.one (show Kd.M (Kd.int .i64) _ _ _ 4 [.int .i64 4] from rfl) (Reps.none _ _)))))); intro v224 w35 ho36 hb hg_ hnew_; clear hg_ hnew_; (first | rw [← Ny223.out] at ho36 | (simp only [Int.reduceToNat] at ho36; rw [← Ny223.out] at ho36)); have n0_ := Aside0.mk (Kd.N_elder' (mND11 HO207.out) (Kd.R_base ho36) hb); have n1_ := Aside0.mk (Kd.R_elder' (mRD11 HO212.out) (Kd.R_base ho36) hb); have n2_ := Aside0.mk (Kd.N_elder' (mND11 HO215.out) (Kd.R_base ho36) hb); have n3_ := Aside0.mk (Kd.R_elder' (mRD11 HO222.out) (Kd.R_base ho36) hb); have n4_ := Aside0.mk (Kd.R_lower (Kd.R_new' (Kd.R_new' ho36 (Kd.R_lt (mRD11 HO212.out))) (Kd.R_lt (mRD11 HO222.out))) (below_size qD110)); have n5_ := Aside0.mk (below_step qD110 hb); clear HO207; clear HO212; clear HO215; clear HO222; clear HB; have HO207 := n0_; have HO212 := n1_; have HO215 := n2_; have HO222 := n3_; have HO225 := n4_; have HB := n5_; clear n0_ n1_ n2_ n3_ n4_ n5_; clear hb ho36; obtain ⟨Ao37, co37, eo37⟩ := Kd.R_slice HO222.out; subst eo37; obtain ⟨Ao38, co38, eo38⟩ := Kd.R_slice HO225.out; subst eo38) | (go_at_call 15; (with_reducible refine (rectoplain_Ints.calls k _ _ t220 _ _ y223 true _ ?side1 ?side2 ?side3 ?side4 A13.out ?side5).mono ?_); (case side1 => repeat (first | exact (Kd.R_reads' HO222.out).2.2 | (with_reducible refine Kd.C_alloc ?_ _) | (with_reducible refine Kd.C_drewN ?_ _) | (with_reducible refine Kd.C_drew ?_))); (case side2 => exact (Kd.R_reads' HO222.out).2.1); (case side3 => repeat (first | exact (Kd.R_reads' HO225.out).2.2 | (with_reducible refine Kd.C_alloc ?_ _) | (with_reducible refine Kd.C_drewN ?_ _) | (with_reducible refine Kd.C_drew ?_))); (case side4 => exact (Kd.R_reads' HO225.out).2.1); (case side5 => exact qD1112); rintro e w' ⟨rfl, ⟨nd, rfl⟩⟩) | (go_at_call 12; (with_reducible refine (dag_Leaves.calls k _ _ y205 (⟨#[112]⟩ : ByteArray) t227 _ ?side1 ?side2 A15.out ?side3).mono ?_); (case side1 => exact qD117); (case side2 => exact (Kd.N_reads' HO207.out).2.1); (case side3 => exact qD1112); rintro e w39 ⟨v228, rfl, ho0, hb⟩; have n0_ := Aside0.mk (Kd.N_elder' (mND11 HO207.out) (Kd.R_base ho0) hb); have n1_ := Aside0.mk (Kd.R_elder' (mRD11 HO212.out) (Kd.R_base ho0) hb); have n2_ := Aside0.mk (Kd.N_elder' (mND11 HO215.out) (Kd.R_base ho0) hb); have n3_ := Aside0.mk (Kd.R_elder' (mRD11 HO222.out) (Kd.R_base ho0) hb); have n4_ := Aside0.mk (Kd.R_elder' (mRD11 HO225.out) (Kd.R_base ho0) hb); have n5_ := Aside0.mk (Kd.R_lower (Kd.R_new' (Kd.R_new' (Kd.R_new' ho0 (Kd.R_lt (mRD11 HO212.out))) (Kd.R_lt (mRD11 HO222.out))) (Kd.R_lt (mRD11 HO225.out))) (below_size qD110)); have n6_ := Aside0.mk (below_step qD110 hb); clear HO207; clear HO212; clear HO215; clear HO222; clear HO225; clear HB; have HO207 := n0_; have HO212 := n1_; have HO215 := n2_; have HO222 := n3_; have HO225 := n4_; have HO229 := n5_; have HB := n6_; clear n0_ n1_ n2_ n3_ n4_ n5_ n6_; (try clear hb); (try clear hb2); (try clear hk); (try clear hi); (try clear ho0)) | ((with_reducible refine gate_dst (N := 66) rfl ?_); (try (refine gate_guard (by rfl) ?_; dsimp only)); refine Kd.R_lit (Kd.int .i64) _ 3 ?hg (N := 66) ?hd (xs := ([2, 3] : List Int)) (inner := [.int .i64 2, .int .i64 3]) (ok := fun _ => True) (okp := fun _ => True) ?hr ?hp (fun _ hk => hk) trivial (Below.refl _ _) (Nat.le_refl _) (by simp) ?_; (case hd => rfl); (case hg => rfl); (case hr => exact qD118); (case hp => exact qD1110); intro v231 w40 ho41 hb hg_ hnew_; clear hg_ hnew_; (first | rw [← Ny230.out] at ho41 | (simp only [Int.reduceToNat] at ho41; rw [← Ny230.out] at ho41)); have n0_ := Aside0.mk (Kd.N_elder' (mND11 HO207.out) (Kd.R_base ho41) hb); have n1_ := Aside0.mk (Kd.R_elder' (mRD11 HO212.out) (Kd.R_base ho41) hb); have n2_ := Aside0.mk (Kd.N_elder' (mND11 HO215.out) (Kd.R_base ho41) hb); have n3_ := Aside0.mk (Kd.R_elder' (mRD11 HO222.out) (Kd.R_base ho41) hb); have n4_ := Aside0.mk (Kd.R_elder' (mRD11 HO225.out) (Kd.R_base ho41) hb); have n5_ := Aside0.mk (Kd.R_elder' (mRD11 HO229.out) (Kd.R_base ho41) hb); have n6_ := Aside0.mk (Kd.R_lower (Kd.R_new' (Kd.R_new' (Kd.R_new' (Kd.R_new' ho41 (Kd.R_lt (mRD11 HO212.out))) (Kd.R_lt (mRD11 HO222.out))) (Kd.R_lt (mRD11 HO225.out))) (Kd.R_lt (mRD11 HO229.out))) (below_size qD110)); have n7_ := Aside0.mk (below_step qD110 hb); clear HO207; clear HO212; clear HO215; clear HO222; clear HO225; clear HO229; clear HB; have HO207 := n0_; have HO212 := n1_; have HO215 := n2_; have HO222 := n3_; have HO225 := n4_; have HO229 := n5_; have HO232 := n6_; have HB := n7_; clear n0_ n1_ n2_ n3_ n4_ n5_ n6_ n7_; clear hb ho41; obtain ⟨Ao42, co42, eo42⟩ := Kd.R_slice HO229.out; subst eo42; obtain ⟨Ao43, co43, eo43⟩ := Kd.R_slice HO232.out; subst eo43) | (go_at_call 15; (with_reducible refine (rectoplain_Ints.calls k _ _ t227 _ _ y230 t233 _ ?side1 ?side2 ?side3 ?side4 A16.out ?side5).mono ?_); (case side1 => repeat (first | exact (Kd.R_reads' HO229.out).2.2 | (with_reducible refine Kd.C_alloc ?_ _) | (with_reducible refine Kd.C_drewN ?_ _) | (with_reducible refine Kd.C_drew ?_))); (case side2 => exact (Kd.R_reads' HO229.out).2.1); (case side3 => repeat (first | exact (Kd.R_reads' HO232.out).2.2 | (with_reducible refine Kd.C_alloc ?_ _) | (with_reducible refine Kd.C_drewN ?_ _) | (with_reducible refine Kd.C_drew ?_))); (case side4 => exact (Kd.R_reads' HO232.out).2.1); (case side5 => exact qD1112); rintro e w' ⟨rfl, ⟨nd, rfl⟩⟩))
                 go_ret
                 exact ⟨qD115, qD110⟩
               · replace c14 := Bool.eq_false_iff.mpr c14
                 subst c14
                 have H1 : (some false) = some r := by rw [if_neg (show ¬ (false = true) by decide)] at H; exact H
                 clear H; have H := H1; clear H1
                 exact absurd ((Option.some.inj H).trans hr_.out) (by decide)
             · rw [if_neg c11] at H
               have c11b0 : (t217 == 4) = false := beq_eq_false_iff_ne.mpr c11; have c11b1 : (t217 != 4) = true := bne_iff_ne.mpr c11
               exact absurd ((Option.some.inj H).trans hr_.out) (by decide)
           · replace c10 := Bool.eq_false_iff.mpr c10
             subst c10
             have H1 : (some false) = some r := by rw [if_neg (show ¬ (false = true) by decide)] at H; exact H
             clear H; have H := H1; clear H1
             exact absurd ((Option.some.inj H).trans hr_.out) (by decide)
         · rw [if_neg c9] at H
           have c9b0 : ((t213.length : Int) == 4) = false := beq_eq_false_iff_ne.mpr c9; have c9b1 : ((t213.length : Int) != 4) = true := bne_iff_ne.mpr c9
           exact absurd ((Option.some.inj H).trans hr_.out) (by decide)
       · rw [if_neg c8] at H
         have c8b0 : (t216 == 0) = false := beq_eq_false_iff_ne.mpr c8; have c8b1 : (t216 != 0) = true := bne_iff_ne.mpr c8
         exact absurd ((Option.some.inj H).trans hr_.out) (by decide)
     · rw [if_neg c7] at H
       have c7b0 : (t208 == 1) = false := beq_eq_false_iff_ne.mpr c7; have c7b1 : (t208 != 1) = true := bne_iff_ne.mpr c7
       exact absurd ((Option.some.inj H).trans hr_.out) (by decide)
   · replace c6 := Bool.eq_false_iff.mpr c6
     subst c6
     have H1 : (some false) = some r := by rw [if_neg (show ¬ (false = true) by decide)] at H; exact H
     clear H; have H := H1; clear H1
     exact absurd ((Option.some.inj H).trans hr_.out) (by decide)
 · rw [if_neg c5] at H
   have c5b0 : (t219 == 0) = false := beq_eq_false_iff_ne.mpr c5; have c5b1 : (t219 != 0) = true := bne_iff_ne.mpr c5
   exact absurd ((Option.some.inj H).trans hr_.out) (by decide)
theorem rectolaw31_four.true_ {k : Nat} {r : Bool} (h : rectolaw31_four.f k = some r) : r = true := by
 have h1 := at_rounds rectolaw31_four.mono (Nat.le_max_left k 64) h; have h2 := at_rounds rectolaw31_four.mono (Nat.le_max_right k 64) (show rectolaw31_four.f 64 = some true by kernel_rfl)
 exact Option.some.inj (h1.symm.trans h2)
theorem rectolaw31_four.calls (k : Nat)  (r : Bool) (w : World) (h : rectolaw31_four.f k  = some r) (HG : Aside0 (Laid w)) :
 Calls Tryd.prog 8 #[] w fun e w' => e = .returned (.bool r) ∧ Below w.heap.size w w' :=
 rectolaw31_four.calls_true k r w h HG ⟨rectolaw31_four.true_ h⟩

/-! ### rectolaw31_ref: function 9 -/
def rectolaw31_ref.l0 : Nat → List (S48) → List (S43) → Int → Int → Option ((List (S48)))
 | 0, _, _, _, _ => none
 | k + 1, x3, x6, x7, x8 => if x8 < x7 then (if 0 ≤ x8 then (if x8 < (x6.length : Int) then (if x3.length < 2513169434916 then (rectolaw31_ref.l0 k (x3 ++ [(⟨(rd_T43 x6 x8).f0, (rd_T43 x6 x8).f1, (rd_T43 x6 x8).f2, (rd_T43 x6 x8).f3⟩ : S48)]) x6 x7 (wrap64 (x8 + 1))) else (none)) else (none)) else (none)) else (some x3)
def rectolaw31_ref.f (k : Nat) (l0 : List (S43)) : Option ((List (S48))) := rectolaw31_ref.l0 k ([] : List (S48)) l0 (l0.length : Int) 0
theorem rectolaw31_ref.mono_l : ∀ k, (∀ y0 y1 y2 y3, LeO (rectolaw31_ref.l0 k y0 y1 y2 y3) (rectolaw31_ref.l0 (k + 1) y0 y1 y2 y3))
 | 0 => fun _ _ _ _ r h => by simp [rectolaw31_ref.l0] at h
 | k + 1 => by
  have ih0 := rectolaw31_ref.mono_l k
  · intro y0 y1 y2 y3
    unfold rectolaw31_ref.l0
    repeat' first
    | (with_reducible exact ih0 _ _ _ _)
    | (with_reducible exact LeO.refl _)
    | (with_reducible exact LeO.none _)
    | (with_reducible refine LeO.ite ?_ ?_)
    | (with_reducible refine LeO.bind ?_ (fun _ => ?_))
    | exact ih0 _ _ _ _
    | exact LeO.none _
    | refine LeO.ite ?_ ?_
    | refine LeO.bind ?_ (fun _ => ?_)
theorem rectolaw31_ref.mono : ∀ a0 k, LeO (rectolaw31_ref.f k a0) (rectolaw31_ref.f (k + 1) a0) := by
 intro a0 k
 have ih0 := rectolaw31_ref.mono_l k; unfold rectolaw31_ref.f
 repeat' first
  | (with_reducible exact ih0 _ _ _ _)
  | (with_reducible exact LeO.refl _)
  | (with_reducible exact LeO.none _)
  | (with_reducible refine LeO.ite ?_ ?_)
  | (with_reducible refine LeO.bind ?_ (fun _ => ?_))
  | exact ih0 _ _ _ _
  | exact LeO.none _
  | refine LeO.ite ?_ ?_
  | refine LeO.bind ?_ (fun _ => ?_)
set_option maxHeartbeats 8000000 in
set_option maxRecDepth 100000 in
theorem rectolaw31_ref.calls (k : Nat) (P0_ : Nat → Prop) (A0 : Option Addr) (c0 : Nat) (l0 : List (S43)) (r : List (S48)) (w : World) (hs0 : Kd.V k43 43 w w.heap.size (fun k_ => P0_ k_) (.slice A0 l0.length c0) l0) (h : rectolaw31_ref.f k l0 = some r) (HG : Aside0 (Laid w)) :
 Calls Tryd.prog 9 #[.slice A0 l0.length c0] w fun e w' => ∃ v0_ : Value, e = .returned (v0_) ∧ Kd.N k48 48 w' w.heap.size (fun k_ => (P0_ k_ ∨ w.heap.size ≤ k_)) v0_ r ∧ Below w.heap.size w w' := by
 have hu43 := Tryd.underlying43; have hu48 := Tryd.underlying48
 have HO0 := Aside0.mk (show Kd.V k43 43 w w.heap.size (fun k_ => (P0_ k_ ∨ w.heap.size ≤ k_)) (.slice A0 l0.length c0) l0 from Kd.V_mono hs0 (fun k_ hk => .inl hk))
 have HB := Aside0.mk (Below.refl w.heap.size w); have H : (rectolaw31_ref.l0 k ([] : List (S48)) l0 (l0.length : Int) 0) = some r := h; clear h; have H' := Aside0.mk H; clear H
 go_enter Tryd.func9, Tryd.ntmps9
 go_wp2
 go_loopg [3, 8] k (fun kq v3 v8 w' => ∃ (x3_1 : List (S48)) (x8_1 : Int), v8 = .int .i64 x8_1 ∧ Aside0 (rectolaw31_ref.l0 kq x3_1 l0 (l0.length : Int) x8_1 = some r) ∧ Aside0 (kq ≤ k) ∧ Aside0 (Kd.N k48 48 w' w.heap.size (fun k_ => (P0_ k_ ∨ w.heap.size ≤ k_)) v3 x3_1) ∧ Aside0 (Kd.V k43 43 w' w.heap.size (fun k_ => (P0_ k_ ∨ w.heap.size ≤ k_) ∧ some k_ ≠ (v3 : Value).ownBlock) (.slice A0 l0.length c0) l0) ∧ Aside0 (Below w.heap.size w w'))
 case atStart => exact ⟨(([] : List (S48))), (0), qD116, H', ⟨Nat.le_refl _⟩, ⟨by first | exact Kd.S_nil _ _ _ _ _ | exact Kd.N_nil _ _ _ _ _ | exact Kd.V_nil _ _ _ _ _ | exact Kd.Q_nil _ _ _ _ _ | exact Kd.R_nil _ _ _ _ _⟩, ⟨by (with_reducible repeat (first | apply Kd.V_alloc | apply Kd.V_drewN | apply Kd.V_drew)); exact Kd.V_mono HO0.out (fun _ hk => ⟨hk, (by simp [Value.ownBlock])⟩)⟩, ⟨qD110⟩⟩
 case round =>
  clear H'; obtain ⟨x3_1, x8_1, rfl, HA, HK1, HO_3, HO_6, HB⟩ := hrel
  cases gk with
  | zero => exact absurd HA.out (by simp [rectolaw31_ref.l0])
  | succ k1 =>
   have H := HA.out; clear HA; simp only [rectolaw31_ref.l0] at H
   by_cases c2 : x8_1 < (l0.length : Int)
   · rw [if_pos c2] at H
     have c2b0 : decide (x8_1 < (l0.length : Int)) = true := decide_eq_true c2; clear c2
     by_cases c3 : 0 ≤ x8_1
     · rw [if_pos c3] at H
       have c3b0 : decide (0 ≤ x8_1) = true := decide_eq_true c3; clear c3
       by_cases c4 : x8_1 < (l0.length : Int)
       · rw [if_pos c4] at H
         have c4b0 : decide (x8_1 < (l0.length : Int)) = true := decide_eq_true c4; clear c4
         by_cases c5 : x3_1.length < 2513169434916
         · rw [if_pos c5] at H
           have LMc5 := Aside0.mk c5; clear c5; obtain ⟨y236, hy236⟩ : ∃ y_ : List (S48), y_ = (x3_1 ++ [(⟨(rd_T43 l0 x8_1).f0, (rd_T43 l0 x8_1).f1, (rd_T43 l0 x8_1).f2, (rd_T43 l0 x8_1).f3⟩ : S48)]) := ⟨_, rfl⟩
           replace H : (rectolaw31_ref.l0 k1 y236 l0 (l0.length : Int) (wrap64 (x8_1 + 1))) = some r := by first | (rw [hy236]; with_reducible exact H) | (have H2_ := (Option.bind_some _ _).symm.trans H; rw [hy236]; with_reducible exact H2_) | (have H2_ := (Option.bind_some _ _).symm.trans H; with_reducible exact H2_) | with_reducible exact H | (rw [hy236]; exact H) | exact H
           have Ny236 := Aside0.mk hy236; clear hy236; have H' := Aside0.mk H; clear H; have p234 : 0 ≤ (x8_1 : Int) := of_decide_eq_true qD112; have q234 : x8_1 < (l0.length : Int) := of_decide_eq_true qD112; obtain ⟨ad234, A234_3, c234_3, e234, hx234_0, hx234_1, hx234_2, hx234_3, hl234_3, hi234_3⟩ := at_T43 (Kd.V_reads' HO_6.out).2.2 x8_1 p234 q234; cases e234; obtain ⟨ce234, hce234, hMe234, hcc234⟩ := Kd.V_get HO_6.out z43 x8_1 p234 (by first | exact q234 | exact of_decide_eq_true qD112 | (have e_ := (Kd.V_reads' HO_6.out).1; omega)); obtain ⟨ua234_3, uc234_3, rfl, ul234_3, ge234_3⟩ := k43_openF hMe234; have hv234_3 := hcc234 3 _ rfl
           rw [add_field _ _ 3 (by omega)] at hv234_3
           replace hv234_3 := Option.some.inj (hv234_3.symm.trans hx234_3)
           injection hv234_3 with hva_ hvn_ hvc_
           rw [hva_] at ge234_3
           rw [hvc_] at ul234_3
           have HL234_3 := Aside0.mk (show Kd.V (Kd.int .i64) 3 _ w.heap.size _ _ ((rd_T43 l0 x8_1).f3) from Kd.V_mk ul234_3 ge234_3); clear hva_ hvn_ hvc_ ge234_3 ul234_3; clear hcc234 hce234; have HR234_3 := Aside0.mk hi234_3; have HC234_3 := Aside0.mk hl234_3; clear hi234_3 hl234_3; replace p234 := eq_true p234; replace q234 := eq_true q234
           go_wp2_with (first | ((with_reducible refine gate_dst (N := 5) rfl ?_); refine box_event ?hg (N := 5) ?hd (cs := #[.int .i64 0, .string (⟨#[]⟩ : ByteArray), .int .i64 0, .slice none 0 0]) (t := 43) ?hr ?_; (case hd => rfl); (case hg => rfl); (case hr => exact qD118); intro gb235 hg w6 hbox hb; have n0_ := Aside0.mk (Kd.N_below (Kd.N_elderB (mND11 HO_3.out) gb235 (Nat.le_of_eq hg.symm)) hb); have n1_ := Aside0.mk (Kd.V_below (Kd.V_elderB (by (with_reducible repeat (first | apply Kd.V_alloc | apply Kd.V_drewN | apply Kd.V_drew)); exact HO_6.out) gb235 (Nat.le_of_eq hg.symm)) hb); have n2_ := Aside0.mk (Kd.V_below (Kd.V_elderB (by (with_reducible repeat (first | apply Kd.V_alloc | apply Kd.V_drewN | apply Kd.V_drew)); exact HL234_3.out) gb235 (Nat.le_of_eq hg.symm)) hb); have n3_ := Aside0.mk (Kd.C_below (by repeat (first | (with_reducible exact HR234_3.out) | (with_reducible refine Kd.C_alloc ?_ _) | (with_reducible refine Kd.C_drewN ?_ _) | (with_reducible refine Kd.C_drew ?_) | exact HR234_3.out)) hb); have n4_ := Aside0.mk (below_step qD110 hb); have n5_ := Aside0.mk (hbox); have n6_ := Aside0.mk ((by rw [hg]; exact (below_size qD110) : w.heap.size ≤ gb235)); have n7_ := Aside0.mk ((by rw [hg]; exact (below_size qD110) : w.heap.size ≤ gb235)); clear HO_3; clear HO_6; clear HL234_3; clear HR234_3; clear HB; have HO_3 := n0_; have HO_6 := n1_; have HL234_3 := n2_; have HR234_3 := n3_; have HB := n4_; have BK235 := n5_; have GW235 := n6_; have GE235 := n7_; clear n0_ n1_ n2_ n3_ n4_ n5_ n6_ n7_; clear hb hbox hg; have hcz7_0 : w6.cell? ⟨gb235, 0, none⟩ = some (.int .i64 0) := (blk_cell BK235.out 0).trans rfl; have hcz7_1 : w6.cell? ⟨gb235, 1, none⟩ = some (.string (⟨#[]⟩ : ByteArray)) := (blk_cell BK235.out 1).trans rfl; have hcz7_2 : w6.cell? ⟨gb235, 2, none⟩ = some (.int .i64 0) := (blk_cell BK235.out 2).trans rfl; have hcz7_3 : w6.cell? ⟨gb235, 3, none⟩ = some (.slice none 0 0) := (blk_cell BK235.out 3).trans rfl; have hfz7_0 := blk_frozen BK235.out 0; have hfz7_1 := blk_frozen BK235.out 1; have hfz7_2 := blk_frozen BK235.out 2; have hfz7_3 := blk_frozen BK235.out 3) | ((with_reducible refine gate_store (t := 43) (p := 5) rfl ?_); refine store_event (t := 43) (p := 5) (v := ?vo_w8) (w1 := ((((w6.setCell ⟨gb235, 0, none⟩ (.int .i64 ((rd_T43 l0 x8_1).f0))).setCell ⟨gb235, 1, none⟩ (.string ((rd_T43 l0 x8_1).f1))).setCell ⟨gb235, 2, none⟩ (.int .i64 ((rd_T43 l0 x8_1).f2))).setCell ⟨gb235, 3, none⟩ (.slice A234_3 ((rd_T43 l0 x8_1).f3).length c234_3))) ?hg ?ho ?hn ?hr ?_; (case ho => rfl); (case hg => rfl); (case hn => rfl); (case hr => exact qD118); intro w8 hw; have n0_ : Aside0 (Kd.N k48 48 w8 w.heap.size (fun k_ => (P0_ k_ ∨ w.heap.size ≤ k_) ∧ k_ ≠ gb235) u3 x3_1) := ⟨(by rw [hw]; exact (by (with_reducible repeat (first | apply Kd.N_alloc | apply Kd.N_drewN | apply Kd.N_drew)); exact Kd.N_mono (Kd.N_far (p := ⟨gb235, 3, none⟩) (Kd.N_far (p := ⟨gb235, 2, none⟩) (Kd.N_far (p := ⟨gb235, 1, none⟩) (Kd.N_far (p := ⟨gb235, 0, none⟩) (Kd.N_mono HO_3.out (fun k_ hk => (⟨hk, hk.2⟩ : _ ∧ k_ ≠ gb235))) (fun _ hk => hk.2) (.int .i64 ((rd_T43 l0 x8_1).f0))) (fun _ hk => hk.2) (.string ((rd_T43 l0 x8_1).f1))) (fun _ hk => hk.2) (.int .i64 ((rd_T43 l0 x8_1).f2))) (fun _ hk => hk.2) (.slice A234_3 ((rd_T43 l0 x8_1).f3).length c234_3)) (fun _ hk => ⟨hk.1.1, hk.1.2⟩)))⟩; have n1_ : Aside0 (Kd.V k43 43 w8 w.heap.size (fun k_ => (P0_ k_ ∨ w.heap.size ≤ k_) ∧ some k_ ≠ (u3 : Value).ownBlock ∧ k_ ≠ gb235) (.slice (some ad234) l0.length c0) l0) := ⟨(by rw [hw]; exact (by (with_reducible repeat (first | apply Kd.V_alloc | apply Kd.V_drewN | apply Kd.V_drew)); exact Kd.V_mono (Kd.V_far (p := ⟨gb235, 3, none⟩) (Kd.V_far (p := ⟨gb235, 2, none⟩) (Kd.V_far (p := ⟨gb235, 1, none⟩) (Kd.V_far (p := ⟨gb235, 0, none⟩) (Kd.V_mono HO_6.out (fun k_ hk => (⟨hk, hk.2⟩ : _ ∧ k_ ≠ gb235))) (fun _ hk => hk.2) (.int .i64 ((rd_T43 l0 x8_1).f0))) (fun _ hk => hk.2) (.string ((rd_T43 l0 x8_1).f1))) (fun _ hk => hk.2) (.int .i64 ((rd_T43 l0 x8_1).f2))) (fun _ hk => hk.2) (.slice A234_3 ((rd_T43 l0 x8_1).f3).length c234_3)) (fun _ hk => ⟨hk.1.1.1, ⟨hk.1.1.2, hk.1.2⟩⟩)))⟩; have n2_ : Aside0 (Kd.V (Kd.int .i64) 3 w8 w.heap.size (fun k_ => (P0_ k_ ∨ w.heap.size ≤ k_) ∧ some k_ ≠ (u3 : Value).ownBlock ∧ k_ ≠ gb235) (.slice A234_3 ((rd_T43 l0 x8_1).f3).length c234_3) ((rd_T43 l0 x8_1).f3)) := ⟨(by rw [hw]; exact (by (with_reducible repeat (first | apply Kd.V_alloc | apply Kd.V_drewN | apply Kd.V_drew)); exact Kd.V_mono (Kd.V_far (p := ⟨gb235, 3, none⟩) (Kd.V_far (p := ⟨gb235, 2, none⟩) (Kd.V_far (p := ⟨gb235, 1, none⟩) (Kd.V_far (p := ⟨gb235, 0, none⟩) (Kd.V_mono HL234_3.out (fun k_ hk => (⟨hk, hk.2⟩ : _ ∧ k_ ≠ gb235))) (fun _ hk => hk.2) (.int .i64 ((rd_T43 l0 x8_1).f0))) (fun _ hk => hk.2) (.string ((rd_T43 l0 x8_1).f1))) (fun _ hk => hk.2) (.int .i64 ((rd_T43 l0 x8_1).f2))) (fun _ hk => hk.2) (.slice A234_3 ((rd_T43 l0 x8_1).f3).length c234_3)) (fun _ hk => ⟨hk.1.1.1, ⟨hk.1.1.2, hk.1.2⟩⟩)))⟩; have n3_ : Aside0 (w8.heap[gb235]? = some (.cells #[.int .i64 ((rd_T43 l0 x8_1).f0), .string ((rd_T43 l0 x8_1).f1), .int .i64 ((rd_T43 l0 x8_1).f2), .slice A234_3 ((rd_T43 l0 x8_1).f3).length c234_3] 43 (0, 0))) := ⟨(by rw [hw]; exact (by (with_reducible repeat (first | refine blk_drewN ?_ _ | refine blk_drew ?_ | refine blk_alloc ?_ _)); refine blk_put (cs := #[.int .i64 ((rd_T43 l0 x8_1).f0), .string ((rd_T43 l0 x8_1).f1), .int .i64 ((rd_T43 l0 x8_1).f2), .slice none 0 0]) ?_ 3 _ qD1111; (with_reducible repeat (first | refine blk_drewN ?_ _ | refine blk_drew ?_ | refine blk_alloc ?_ _)); refine blk_put (cs := #[.int .i64 ((rd_T43 l0 x8_1).f0), .string ((rd_T43 l0 x8_1).f1), .int .i64 0, .slice none 0 0]) ?_ 2 _ qD1111; (with_reducible repeat (first | refine blk_drewN ?_ _ | refine blk_drew ?_ | refine blk_alloc ?_ _)); refine blk_put (cs := #[.int .i64 ((rd_T43 l0 x8_1).f0), .string (⟨#[]⟩ : ByteArray), .int .i64 0, .slice none 0 0]) ?_ 1 _ qD1111; (with_reducible repeat (first | refine blk_drewN ?_ _ | refine blk_drew ?_ | refine blk_alloc ?_ _)); refine blk_put (cs := #[.int .i64 0, .string (⟨#[]⟩ : ByteArray), .int .i64 0, .slice none 0 0]) ?_ 0 _ qD1111; (with_reducible repeat (first | refine blk_drewN ?_ _ | refine blk_drew ?_ | refine blk_alloc ?_ _)); exact BK235.out))⟩; have n4_ : Aside0 (Below w.heap.size w w8) := ⟨(by rw [hw]; exact qD113)⟩; clear hw; clear HO_3; clear HO_6; clear HL234_3; clear BK235; clear HB; have HO_3 := n0_; have HO_6 := n1_; have HL234_3 := n2_; have BK235 := n3_; have HB := n4_; clear n0_ n1_ n2_ n3_ n4_; have hcz9_0 : w8.cell? ⟨gb235, 0, none⟩ = some (.int .i64 ((rd_T43 l0 x8_1).f0)) := (blk_cell BK235.out 0).trans rfl; have hcz9_1 : w8.cell? ⟨gb235, 1, none⟩ = some (.string ((rd_T43 l0 x8_1).f1)) := (blk_cell BK235.out 1).trans rfl; have hcz9_2 : w8.cell? ⟨gb235, 2, none⟩ = some (.int .i64 ((rd_T43 l0 x8_1).f2)) := (blk_cell BK235.out 2).trans rfl; have hcz9_3 : w8.cell? ⟨gb235, 3, none⟩ = some (.slice A234_3 ((rd_T43 l0 x8_1).f3).length c234_3) := (blk_cell BK235.out 3).trans rfl; have hfz9_0 := blk_frozen BK235.out 0; have hfz9_1 := blk_frozen BK235.out 1; have hfz9_2 := blk_frozen BK235.out 2; have hfz9_3 := blk_frozen BK235.out 3) | ((with_reducible refine gate_builtin (b := .append) (xs := #[.tmp 12, .tmp 22]) rfl ?_); at_builtin; refine Kd.N_append k48 (w0 := w) w.heap.size rfl (.tmp 12) (.tmp 22) 25 48 (.agg #[(.int .i64 0), (.string ⟨#[]⟩), (.int .i64 0), (.slice none 0 0)]) 56 rfl Tryd.underlying25 info48 rfl (by decide) (by omega) u3 x3_1 (⟨(rd_T43 l0 x8_1).f0, (rd_T43 l0 x8_1).f1, (rd_T43 l0 x8_1).f2, (rd_T43 l0 x8_1).f3⟩ : S48) [.int .i64 ((rd_T43 l0 x8_1).f0), .string ((rd_T43 l0 x8_1).f1), .int .i64 ((rd_T43 l0 x8_1).f2), .slice A234_3 ((rd_T43 l0 x8_1).f3).length c234_3] (fun k_ => (P0_ k_ ∨ w.heap.size ≤ k_) ∧ k_ ≠ gb235) (fun k_ => ((fun k_ => (P0_ k_ ∨ w.heap.size ≤ k_) ∧ k_ ≠ gb235)) k_ ∧ some k_ ≠ (u3 : Value).ownBlock) rfl rfl ?aP (fun _ hk => hk) ?aF ?aO ?aB ?aS ?aL ?_; (case aP => exact (k48_mkF _ _ (⟨(rd_T43 l0 x8_1).f0, (rd_T43 l0 x8_1).f1, (rd_T43 l0 x8_1).f2, (rd_T43 l0 x8_1).f3⟩ : S48) (Kd.V_reads' (Kd.V_mono (ok' := (fun k_ => ((fun k_ => (P0_ k_ ∨ w.heap.size ≤ k_) ∧ k_ ≠ gb235)) k_ ∧ some k_ ≠ (u3 : Value).ownBlock)) (HL234_3.out) (fun k_ hk => ⟨⟨hk.1, hk.2.2⟩, hk.2.1⟩))).2.1 (Kd.V_F (Kd.V_mono (ok' := (fun k_ => ((fun k_ => (P0_ k_ ∨ w.heap.size ≤ k_) ∧ k_ ≠ gb235)) k_ ∧ some k_ ≠ (u3 : Value).ownBlock)) (HL234_3.out) (fun k_ hk => ⟨⟨hk.1, hk.2.2⟩, hk.2.1⟩))))); (case aB => exact qD113); (case aF => exact (fun k_ hk => ⟨(.inr (Nat.le_trans (below_size qD113) hk)), Kd.freshB (g := gb235) (o := .cells #[.int .i64 ((rd_T43 l0 x8_1).f0), .string ((rd_T43 l0 x8_1).f1), .int .i64 ((rd_T43 l0 x8_1).f2), .slice A234_3 ((rd_T43 l0 x8_1).f3).length c234_3] 43 (0, 0)) (by (with_reducible repeat (first | refine blk_drewN ?_ _ | refine blk_drew ?_ | refine blk_alloc ?_ _)); exact BK235.out) k_ hk⟩)); (case aO => exact (mND11 HO_3.out)); (case aS => exact (below_size qD113)); (case aL => have := LMc5.out; omega); intro v237 w10 ho hb hg hat; rw [← Ny236.out] at ho; have n0_ := Aside0.mk (Kd.V_afterv (ok := (fun k_ => (P0_ k_ ∨ w.heap.size ≤ k_) ∧ k_ ≠ gb235)) (by (with_reducible repeat (first | apply Kd.V_alloc | apply Kd.V_drewN | apply Kd.V_drew)); exact Kd.V_mono HO_6.out (fun _ hk => ⟨⟨hk.1, hk.2.2⟩, hk.2.1⟩)) hg hat); have n1_ := Aside0.mk (Kd.V_afterv (ok := (fun k_ => (P0_ k_ ∨ w.heap.size ≤ k_) ∧ k_ ≠ gb235)) (by (with_reducible repeat (first | apply Kd.V_alloc | apply Kd.V_drewN | apply Kd.V_drew)); exact Kd.V_mono HL234_3.out (fun _ hk => ⟨⟨hk.1, hk.2.2⟩, hk.2.1⟩)) hg hat); have n2_ := Aside0.mk (blk_grown (g := gb235) (o := .cells #[.int .i64 ((rd_T43 l0 x8_1).f0), .string ((rd_T43 l0 x8_1).f1), .int .i64 ((rd_T43 l0 x8_1).f2), .slice A234_3 ((rd_T43 l0 x8_1).f3).length c234_3] 43 (0, 0)) (by (with_reducible repeat (first | refine blk_drewN ?_ _ | refine blk_drew ?_ | refine blk_alloc ?_ _)); exact BK235.out) hg (Kd.N_ne HO_3.out BK235.out (by decide))); have n3_ := Aside0.mk (hb); have n4_ := Aside0.mk (ho); clear HO_6; clear HL234_3; clear BK235; clear HB; clear HO_3; have HO_6 := n0_; have HL234_3 := n1_; have BK235 := n2_; have HB := n3_; have HO238 := n4_; clear n0_ n1_ n2_ n3_ n4_; clear ho hb hg hat))
           go_roundg k1
           case measure => have := HK1.out; omega
           case rel => exact ⟨(y236), (wrap64 (x8_1 + 1)), qD116, H', ⟨by have := HK1.out; omega⟩, ⟨by (with_reducible repeat (first | apply Kd.N_alloc | apply Kd.N_drewN | apply Kd.N_drew)); exact Kd.N_mono HO238.out (fun _ hk => hk.1)⟩, ⟨by (with_reducible repeat (first | apply Kd.V_alloc | apply Kd.V_drewN | apply Kd.V_drew)); exact Kd.V_mono HO_6.out (fun _ hk => ⟨hk.1.1, hk.2⟩)⟩, ⟨qD113⟩⟩
         · rw [if_neg c5] at H
           exact absurd H (by simp)
       · rw [if_neg c4] at H
         exact absurd H (by simp)
     · rw [if_neg c3] at H
       exact absurd H (by simp)
   · rw [if_neg c2] at H
     have c2b0 : decide (x8_1 < (l0.length : Int)) = false := decide_eq_false c2; clear c2; obtain rfl := Option.some.inj H
     go_wp2
     go_ret
     exact ⟨_, qD115, by (with_reducible repeat (first | apply Kd.N_alloc | apply Kd.N_drewN | apply Kd.N_drew)); exact HO_3.out, qD110⟩

/-! ### rectoref31_has: function 32 -/
def rectoref31_has.l0 : Nat → Int → List Int → Int → Int → Option (Bool)
 | 0, _, _, _, _ => none
 | k + 1, x1, x7, x8, x9 => if x9 < x8 then (if 0 ≤ x9 then (if x9 < (x7.length : Int) then (if (rd x7 x9) = x1 then (some true) else (rectoref31_has.l0 k x1 x7 x8 (wrap64 (x9 + 1)))) else (none)) else (none)) else (some false)
def rectoref31_has.f (k : Nat) (l0 : List Int) (a1 : Int) : Option (Bool) := rectoref31_has.l0 k a1 l0 (l0.length : Int) 0
theorem rectoref31_has.mono_l : ∀ k, (∀ y0 y1 y2 y3, LeO (rectoref31_has.l0 k y0 y1 y2 y3) (rectoref31_has.l0 (k + 1) y0 y1 y2 y3))
 | 0 => fun _ _ _ _ r h => by simp [rectoref31_has.l0] at h
 | k + 1 => by
  have ih0 := rectoref31_has.mono_l k
  · intro y0 y1 y2 y3
    unfold rectoref31_has.l0
    repeat' first
    | (with_reducible exact ih0 _ _ _ _)
    | (with_reducible exact LeO.refl _)
    | (with_reducible exact LeO.none _)
    | (with_reducible refine LeO.ite ?_ ?_)
    | (with_reducible refine LeO.bind ?_ (fun _ => ?_))
    | exact ih0 _ _ _ _
    | exact LeO.none _
    | refine LeO.ite ?_ ?_
    | refine LeO.bind ?_ (fun _ => ?_)
theorem rectoref31_has.mono : ∀ a0 a1 k, LeO (rectoref31_has.f k a0 a1) (rectoref31_has.f (k + 1) a0 a1) := by
 intro a0 a1 k
 have ih0 := rectoref31_has.mono_l k; unfold rectoref31_has.f
 repeat' first
  | (with_reducible exact ih0 _ _ _ _)
  | (with_reducible exact LeO.refl _)
  | (with_reducible exact LeO.none _)
  | (with_reducible refine LeO.ite ?_ ?_)
  | (with_reducible refine LeO.bind ?_ (fun _ => ?_))
  | exact ih0 _ _ _ _
  | exact LeO.none _
  | refine LeO.ite ?_ ?_
  | refine LeO.bind ?_ (fun _ => ?_)
set_option maxHeartbeats 8000000 in
set_option maxRecDepth 100000 in
theorem rectoref31_has.calls (k : Nat) (A0 : Option Addr) (c0 : Nat) (l0 : List Int) (a1 : Int) (r : Bool) (w : World) (hr0 : Kd.C (Kd.int .i64) w A0 l0.length l0) (hc0 : l0.length ≤ c0) (h : rectoref31_has.f k l0 a1 = some r) (HG : Aside0 (Laid w)) :
 Calls Tryd.prog 32 #[.slice A0 l0.length c0, .int .i64 a1] w fun e w' => e = .returned (.bool r) ∧ Drawn0 w w' := by
 have HR0 := Aside0.mk hr0; have HC0 := Aside0.mk hc0; clear hr0 hc0; have H : (rectoref31_has.l0 k a1 l0 (l0.length : Int) 0) = some r := h; clear h; have H' := Aside0.mk H; clear H
 go_enter Tryd.func32, Tryd.ntmps32
 go_wp2
 go_loopg [9] k (fun kq v9 w' => ∃ (x9_1 : Int), v9 = .int .i64 x9_1 ∧ Aside0 (rectoref31_has.l0 kq a1 l0 (l0.length : Int) x9_1 = some r) ∧ Aside0 (kq ≤ k) ∧ Drawn0 w w')
 case atStart => exact ⟨(0), qD116, H', ⟨Nat.le_refl _⟩, qD114⟩
 case round =>
  clear H'; (try clear p2); obtain ⟨x9_1, rfl, HA, HK1, ⟨m1, rfl⟩⟩ := hrel
  cases gk with
  | zero => exact absurd HA.out (by simp [rectoref31_has.l0])
  | succ k1 =>
   have H := HA.out; clear HA; simp only [rectoref31_has.l0] at H
   by_cases c3 : x9_1 < (l0.length : Int)
   · rw [if_pos c3] at H
     have c3b0 : decide (x9_1 < (l0.length : Int)) = true := decide_eq_true c3; clear c3
     by_cases c4 : 0 ≤ x9_1
     · rw [if_pos c4] at H
       have c4b0 : decide (0 ≤ x9_1) = true := decide_eq_true c4; clear c4
       by_cases c5 : x9_1 < (l0.length : Int)
       · rw [if_pos c5] at H
         have c5b0 : decide (x9_1 < (l0.length : Int)) = true := decide_eq_true c5; clear c5
         by_cases c6 : (rd l0 x9_1) = a1
         · rw [if_pos c6] at H
           have c6b0 : ((rd l0 x9_1) == a1) = true := beq_iff_eq.mpr c6; have c6b1 : ((rd l0 x9_1) != a1) = false := bne_eq_false_iff_eq.mpr c6; clear c6; obtain rfl := Option.some.inj H; have p239 : 0 ≤ (x9_1 : Int) := of_decide_eq_true qD112; have q239 : x9_1 < (l0.length : Int) := of_decide_eq_true qD112; obtain ⟨ad239, e239, hx239_0⟩ := Kd.at_int HR0.out x9_1 p239 q239; cases e239; replace p239 := eq_true p239; replace q239 := eq_true q239
           go_wp2
           go_ret
           exact ⟨qD116, qD114⟩
         · rw [if_neg c6] at H
           have c6b0 : ((rd l0 x9_1) == a1) = false := beq_eq_false_iff_ne.mpr c6; have c6b1 : ((rd l0 x9_1) != a1) = true := bne_iff_ne.mpr c6; have H' := Aside0.mk H; clear H; have p239 : 0 ≤ (x9_1 : Int) := of_decide_eq_true qD112; have q239 : x9_1 < (l0.length : Int) := of_decide_eq_true qD112; obtain ⟨ad239, e239, hx239_0⟩ := Kd.at_int HR0.out x9_1 p239 q239; cases e239; replace p239 := eq_true p239; replace q239 := eq_true q239
           go_wp2
           go_roundg k1
           case measure => have := HK1.out; omega
           case rel => exact ⟨(wrap64 (x9_1 + 1)), qD116, H', ⟨by have := HK1.out; omega⟩, qD114⟩
       · rw [if_neg c5] at H
         exact absurd H (by simp)
     · rw [if_neg c4] at H
       exact absurd H (by simp)
   · rw [if_neg c3] at H
     have c3b0 : decide (x9_1 < (l0.length : Int)) = false := decide_eq_false c3; clear c3; obtain rfl := Option.some.inj H
     go_wp2
     go_ret
     exact ⟨qD116, qD114⟩

/-! ### rectoref02_low: function 57 -/
def rectoref02_low.f (a0 : ByteArray) (a1 : Int) : Option (Int) := if a1 ≥ (a0.size : Int) then (some (-1)) else (if 0 ≤ a1 then (if a1 < (a0.size : Int) then (if (bt a0 a1) < 128 then (some (-1)) else (if (bt a0 a1) > 191 then (some (-1)) else (some (wrap64 ((wrap64 (bt a0 a1)) - 128))))) else (none)) else (none))
set_option maxHeartbeats 8000000 in
set_option maxRecDepth 100000 in
theorem rectoref02_low.calls (a0 : ByteArray) (a1 : Int) (r : Int) (w : World) (h : rectoref02_low.f a0 a1 = some r) (HG : Aside0 (Laid w)) :
 Calls Tryd.prog 57 #[.string a0, .int .i64 a1] w fun e w' => e = .returned (.int .i64 r) ∧ Drawn0 w w' := by
 have H : (if a1 ≥ (a0.size : Int) then (some (-1)) else (if 0 ≤ a1 then (if a1 < (a0.size : Int) then (if (bt a0 a1) < 128 then (some (-1)) else (if (bt a0 a1) > 191 then (some (-1)) else (some (wrap64 ((wrap64 (bt a0 a1)) - 128))))) else (none)) else (none))) = some r := h
 clear h
 by_cases c3 : a1 ≥ (a0.size : Int)
 · rw [if_pos c3] at H
   have c3b0 : decide ((a0.size : Int) ≤ a1) = true := decide_eq_true c3; clear c3; obtain rfl := Option.some.inj H
   go_enter Tryd.func57, Tryd.ntmps57
   go_wp2
   go_ret
   exact ⟨qD116, qD114⟩
 · rw [if_neg c3] at H
   have c3b0 : decide ((a0.size : Int) ≤ a1) = false := decide_eq_false c3; clear c3
   by_cases c4 : 0 ≤ a1
   · rw [if_pos c4] at H
     have c4b0 : decide (0 ≤ a1) = true := decide_eq_true c4; clear c4
     by_cases c5 : a1 < (a0.size : Int)
     · rw [if_pos c5] at H
       have c5b0 : decide (a1 < (a0.size : Int)) = true := decide_eq_true c5; clear c5
       by_cases c7 : (bt a0 a1) < 128
       · rw [if_pos c7] at H
         have c7b0 : decide ((bt a0 a1) < 128) = true := decide_eq_true c7; clear c7; obtain rfl := Option.some.inj H; have p6 : 0 ≤ (a1 : Int) := of_decide_eq_true qD112; have q6 : a1 < (a0.size : Int) := of_decide_eq_true qD112; have hx6 := bt_at a0 a1; replace p6 := eq_true p6; replace q6 := eq_true q6
         go_enter Tryd.func57, Tryd.ntmps57
         go_wp2
         go_ret
         exact ⟨qD116, qD114⟩
       · rw [if_neg c7] at H
         have c7b0 : decide ((bt a0 a1) < 128) = false := decide_eq_false c7; clear c7
         by_cases c9 : (bt a0 a1) > 191
         · rw [if_pos c9] at H
           have c9b0 : decide (191 < (bt a0 a1)) = true := decide_eq_true c9; clear c9; obtain rfl := Option.some.inj H; have p6 : 0 ≤ (a1 : Int) := of_decide_eq_true qD112; have q6 : a1 < (a0.size : Int) := of_decide_eq_true qD112; have hx6 := bt_at a0 a1; replace p6 := eq_true p6; replace q6 := eq_true q6; have p8 : 0 ≤ (a1 : Int) := of_decide_eq_true qD112; have q8 : a1 < (a0.size : Int) := of_decide_eq_true qD112; have hx8 := bt_at a0 a1; replace p8 := eq_true p8; replace q8 := eq_true q8
           go_enter Tryd.func57, Tryd.ntmps57
           go_wp2
           go_ret
           exact ⟨qD116, qD114⟩
         · rw [if_neg c9] at H
           have c9b0 : decide (191 < (bt a0 a1)) = false := decide_eq_false c9; clear c9; obtain rfl := Option.some.inj H; have p6 : 0 ≤ (a1 : Int) := of_decide_eq_true qD112; have q6 : a1 < (a0.size : Int) := of_decide_eq_true qD112; have hx6 := bt_at a0 a1; replace p6 := eq_true p6; replace q6 := eq_true q6; have p8 : 0 ≤ (a1 : Int) := of_decide_eq_true qD112; have q8 : a1 < (a0.size : Int) := of_decide_eq_true qD112; have hx8 := bt_at a0 a1; replace p8 := eq_true p8; replace q8 := eq_true q8; have p10 : 0 ≤ (a1 : Int) := of_decide_eq_true qD112; have q10 : a1 < (a0.size : Int) := of_decide_eq_true qD112; have hx10 := bt_at a0 a1; replace p10 := eq_true p10; replace q10 := eq_true q10
           go_enter Tryd.func57, Tryd.ntmps57
           go_wp2
           go_ret
           exact ⟨qD116, qD114⟩
     · rw [if_neg c5] at H
       exact absurd H (by simp)
   · rw [if_neg c4] at H
     exact absurd H (by simp)

/-! ### rectoref02_Is: function 58 -/
def rectoref02_Is.f (a0 : Int) : Option (Bool) := if a0 ≥ 0 then (if a0 ≤ 1114111 then (if a0 ≥ 55296 then (some (!(decide (a0 ≤ 57343)))) else (some (!false))) else (some false)) else (some false)
set_option maxHeartbeats 8000000 in
set_option maxRecDepth 100000 in
theorem rectoref02_Is.calls (a0 : Int) (r : Bool) (w : World) (h : rectoref02_Is.f a0 = some r) (HG : Aside0 (Laid w)) :
 Calls Tryd.prog 58 #[.int .i64 a0] w fun e w' => e = .returned (.bool r) ∧ Drawn0 w w' := by
 have H : (if a0 ≥ 0 then (if a0 ≤ 1114111 then (if a0 ≥ 55296 then (some (!(decide (a0 ≤ 57343)))) else (some (!false))) else (some false)) else (some false)) = some r := h
 clear h
 by_cases c2 : a0 ≥ 0
 · rw [if_pos c2] at H
   have c2b0 : decide (0 ≤ a0) = true := decide_eq_true c2; clear c2
   by_cases c3 : a0 ≤ 1114111
   · rw [if_pos c3] at H
     have c3b0 : decide (a0 ≤ 1114111) = true := decide_eq_true c3; clear c3
     by_cases c4 : a0 ≥ 55296
     · rw [if_pos c4] at H
       have c4b0 : decide (55296 ≤ a0) = true := decide_eq_true c4; clear c4; obtain rfl := Option.some.inj H
       go_enter Tryd.func58, Tryd.ntmps58
       go_wp2
       go_ret
       exact ⟨qD116, qD114⟩
     · rw [if_neg c4] at H
       have c4b0 : decide (55296 ≤ a0) = false := decide_eq_false c4; clear c4; obtain rfl := Option.some.inj H
       go_enter Tryd.func58, Tryd.ntmps58
       go_wp2
       go_ret
       exact ⟨qD116, qD114⟩
   · rw [if_neg c3] at H
     have c3b0 : decide (a0 ≤ 1114111) = false := decide_eq_false c3; clear c3; obtain rfl := Option.some.inj H
     go_enter Tryd.func58, Tryd.ntmps58
     go_wp2
     go_ret
     exact ⟨qD116, qD114⟩
 · rw [if_neg c2] at H
   have c2b0 : decide (0 ≤ a0) = false := decide_eq_false c2; clear c2; obtain rfl := Option.some.inj H
   go_enter Tryd.func58, Tryd.ntmps58
   go_wp2
   go_ret
   exact ⟨qD116, qD114⟩

/-! ### rectoref02_Bytes: function 59 -/
def rectoref02_Bytes.f : Nat → Int → Option (ByteArray)
 | 0, _ => none
 | k + 1, a0 => (rectoref02_Is.f a0).bind fun t240 => (if t240 = true then (if a0 < 128 then (some (strOfNums (([(a0) % 256] : List Int)))) else (if a0 < 2048 then (some (strOfNums (([(wrap64 (192 + (wrap64 (Int.tdiv a0 64)))) % 256, (wrap64 (128 + (Int.tmod a0 64))) % 256] : List Int)))) else (if a0 < 65536 then (some (strOfNums (([(wrap64 (224 + (wrap64 (Int.tdiv a0 4096)))) % 256, (wrap64 (128 + (Int.tmod (wrap64 (Int.tdiv a0 64)) 64))) % 256, (wrap64 (128 + (Int.tmod a0 64))) % 256] : List Int)))) else (some (strOfNums (([(wrap64 (240 + (wrap64 (Int.tdiv a0 262144)))) % 256, (wrap64 (128 + (Int.tmod (wrap64 (Int.tdiv a0 4096)) 64))) % 256, (wrap64 (128 + (Int.tmod (wrap64 (Int.tdiv a0 64)) 64))) % 256, (wrap64 (128 + (Int.tmod a0 64))) % 256] : List Int))))))) else ((rectoref02_Bytes.f k 65533).bind fun t241 => (some t241)))
theorem rectoref02_Bytes.mono_l : ∀ k, (∀ y0, LeO (rectoref02_Bytes.f k y0) (rectoref02_Bytes.f (k + 1) y0))
 | 0 => fun _ r h => by simp [rectoref02_Bytes.f] at h
 | k + 1 => by
  have ih0 := rectoref02_Bytes.mono_l k
  · intro y0
    unfold rectoref02_Bytes.f
    repeat' first
    | (with_reducible exact ih0 _)
    | (with_reducible exact LeO.refl _)
    | (with_reducible exact LeO.none _)
    | (with_reducible refine LeO.ite ?_ ?_)
    | (with_reducible refine LeO.bind ?_ (fun _ => ?_))
    | exact ih0 _
    | exact LeO.none _
    | refine LeO.ite ?_ ?_
    | refine LeO.bind ?_ (fun _ => ?_)
theorem rectoref02_Bytes.mono : ∀ a0 k, LeO (rectoref02_Bytes.f k a0) (rectoref02_Bytes.f (k + 1) a0) := by
 intro a0 k
 have ih0 := rectoref02_Bytes.mono_l k
 exact ih0 a0
set_option maxHeartbeats 8000000 in
set_option maxRecDepth 100000 in
theorem rectoref02_Bytes.calls (k : Nat) : ∀ (a0 : Int) (r : ByteArray) (w : World) (h : rectoref02_Bytes.f k a0 = some r) (HG : Aside0 (Laid w)),
 Calls Tryd.prog 59 #[.int .i64 a0] w fun e w' => e = .returned (.string r) ∧ Below w.heap.size w w' := by
 induction k using Nat.strongRecOn with
 | _ k ih =>
 intro a0 r w h HG
 cases k with
 | zero => exact absurd h (by simp [rectoref02_Bytes.f])
 | succ k =>
 simp only [rectoref02_Bytes.f] at h; have HB := Aside0.mk (Below.refl w.heap.size w)
 have H : ((rectoref02_Is.f a0).bind fun t240 => (if t240 = true then (if a0 < 128 then (some (strOfNums (([(a0) % 256] : List Int)))) else (if a0 < 2048 then (some (strOfNums (([(wrap64 (192 + (wrap64 (Int.tdiv a0 64)))) % 256, (wrap64 (128 + (Int.tmod a0 64))) % 256] : List Int)))) else (if a0 < 65536 then (some (strOfNums (([(wrap64 (224 + (wrap64 (Int.tdiv a0 4096)))) % 256, (wrap64 (128 + (Int.tmod (wrap64 (Int.tdiv a0 64)) 64))) % 256, (wrap64 (128 + (Int.tmod a0 64))) % 256] : List Int)))) else (some (strOfNums (([(wrap64 (240 + (wrap64 (Int.tdiv a0 262144)))) % 256, (wrap64 (128 + (Int.tmod (wrap64 (Int.tdiv a0 4096)) 64))) % 256, (wrap64 (128 + (Int.tmod (wrap64 (Int.tdiv a0 64)) 64))) % 256, (wrap64 (128 + (Int.tmod a0 64))) % 256] : List Int))))))) else ((rectoref02_Bytes.f k 65533).bind fun t241 => (some t241)))) = some r := h
 clear h; replace H := Option.bind_eq_some_iff.mp H; obtain ⟨t240, A20, H⟩ := H
 replace H : (if t240 = true then (if a0 < 128 then (some (strOfNums (([(a0) % 256] : List Int)))) else (if a0 < 2048 then (some (strOfNums (([(wrap64 (192 + (wrap64 (Int.tdiv a0 64)))) % 256, (wrap64 (128 + (Int.tmod a0 64))) % 256] : List Int)))) else (if a0 < 65536 then (some (strOfNums (([(wrap64 (224 + (wrap64 (Int.tdiv a0 4096)))) % 256, (wrap64 (128 + (Int.tmod (wrap64 (Int.tdiv a0 64)) 64))) % 256, (wrap64 (128 + (Int.tmod a0 64))) % 256] : List Int)))) else (some (strOfNums (([(wrap64 (240 + (wrap64 (Int.tdiv a0 262144)))) % 256, (wrap64 (128 + (Int.tmod (wrap64 (Int.tdiv a0 4096)) 64))) % 256, (wrap64 (128 + (Int.tmod (wrap64 (Int.tdiv a0 64)) 64))) % 256, (wrap64 (128 + (Int.tmod a0 64))) % 256] : List Int))))))) else ((rectoref02_Bytes.f k 65533).bind fun t241 => (some t241))) = some r := H
 have A2 := Aside0.mk A20; clear A20
 by_cases c3 : t240 = true
 · subst c3
   have H1 : (if a0 < 128 then (some (strOfNums (([(a0) % 256] : List Int)))) else (if a0 < 2048 then (some (strOfNums (([(wrap64 (192 + (wrap64 (Int.tdiv a0 64)))) % 256, (wrap64 (128 + (Int.tmod a0 64))) % 256] : List Int)))) else (if a0 < 65536 then (some (strOfNums (([(wrap64 (224 + (wrap64 (Int.tdiv a0 4096)))) % 256, (wrap64 (128 + (Int.tmod (wrap64 (Int.tdiv a0 64)) 64))) % 256, (wrap64 (128 + (Int.tmod a0 64))) % 256] : List Int)))) else (some (strOfNums (([(wrap64 (240 + (wrap64 (Int.tdiv a0 262144)))) % 256, (wrap64 (128 + (Int.tmod (wrap64 (Int.tdiv a0 4096)) 64))) % 256, (wrap64 (128 + (Int.tmod (wrap64 (Int.tdiv a0 64)) 64))) % 256, (wrap64 (128 + (Int.tmod a0 64))) % 256] : List Int))))))) = some r := by rw [if_pos rfl] at H; exact H
   clear H; have H := H1; clear H1
   by_cases c4 : a0 < 128
   · rw [if_pos c4] at H
     have c4b0 : decide (a0 < 128) = true := decide_eq_true c4; clear c4; obtain ⟨y242, hy242⟩ : ∃ y_ : List Int, y_ = (([(a0) % 256] : List Int)) := ⟨_, rfl⟩
     replace H : (some (strOfNums y242)) = some r := by first | (rw [hy242]; with_reducible exact H) | (have H2_ := (Option.bind_some _ _).symm.trans H; rw [hy242]; with_reducible exact H2_) | (have H2_ := (Option.bind_some _ _).symm.trans H; with_reducible exact H2_) | with_reducible exact H | (rw [hy242]; exact H) | exact H
     have Ny242 := Aside0.mk hy242; clear hy242; obtain rfl := Option.some.inj H
     go_enter Tryd.func59, Tryd.ntmps59
     go_wp2_with (first | ((with_reducible refine gate_callee (f := 58) rfl ?_); refine goesL_ (some 4) rfl rfl Tryd.func58 (by kernel_rfl) rfl #[.int .i64 a0] rfl qD111 ?_; (with_reducible refine (rectoref02_Is.calls a0 true _ A2.out ?side1).mono ?_); (case side1 => exact qD1112); rintro e w' ⟨rfl, ⟨nd, rfl⟩⟩; refine ⟨_, rfl, ?_⟩) | ((with_reducible refine gate_dst (N := 11) rfl ?_); refine Kd.R_lit (Kd.int .u8) _ 5 ?hg (N := 11) ?hd (xs := ([(a0) % 256] : List Int)) (inner := [.int .u8 ((a0) % 256)]) (ok := fun _ => True) (okp := fun _ => True) ?hr ?hp (fun _ hk => hk) trivial (Below.refl _ _) (Nat.le_refl _) (by simp) ?_; (case hd => rfl); (case hg => rfl); (case hr => exact qD118); (case hp => exact (Reps.one (show Kd.M (Kd.int .u8) _ _ _ ((a0) % 256) [.int .u8 ((a0) % 256)] from rfl) (Reps.none _ _))); intro v243 w5 ho6 hb hg_ hnew_; clear hg_ hnew_; (first | rw [← Ny242.out] at ho6 | (simp only [Int.reduceToNat] at ho6; rw [← Ny242.out] at ho6)); have n0_ := Aside0.mk (Kd.R_lower ho6 (below_size qD110)); have n1_ := Aside0.mk (below_step qD110 hb); clear HB; have HO244 := n0_; have HB := n1_; clear n0_ n1_; clear hb ho6; have hcv7 := own_string (P := Tryd.prog) Tryd.underlying86 Tryd.underlying5 Tryd.underlying9 (Kd.own_of_R HO244.out)))
     go_ret
     exact ⟨qD115, qD110⟩
   · rw [if_neg c4] at H
     have c4b0 : decide (a0 < 128) = false := decide_eq_false c4; clear c4
     by_cases c8 : a0 < 2048
     · rw [if_pos c8] at H
       have c8b0 : decide (a0 < 2048) = true := decide_eq_true c8; clear c8; obtain ⟨y245, hy245⟩ : ∃ y_ : List Int, y_ = (([(wrap64 (192 + (wrap64 (Int.tdiv a0 64)))) % 256, (wrap64 (128 + (Int.tmod a0 64))) % 256] : List Int)) := ⟨_, rfl⟩
       replace H : (some (strOfNums y245)) = some r := by first | (rw [hy245]; with_reducible exact H) | (have H2_ := (Option.bind_some _ _).symm.trans H; rw [hy245]; with_reducible exact H2_) | (have H2_ := (Option.bind_some _ _).symm.trans H; with_reducible exact H2_) | with_reducible exact H | (rw [hy245]; exact H) | exact H
       have Ny245 := Aside0.mk hy245; clear hy245; obtain rfl := Option.some.inj H
       go_enter Tryd.func59, Tryd.ntmps59
       go_wp2_with (first | ((with_reducible refine gate_callee (f := 58) rfl ?_); refine goesL_ (some 4) rfl rfl Tryd.func58 (by kernel_rfl) rfl #[.int .i64 a0] rfl qD111 ?_; (with_reducible refine (rectoref02_Is.calls a0 true _ A2.out ?side1).mono ?_); (case side1 => exact qD1112); rintro e w' ⟨rfl, ⟨nd, rfl⟩⟩; refine ⟨_, rfl, ?_⟩) | ((with_reducible refine gate_dst (N := 23) rfl ?_); refine Kd.R_lit (Kd.int .u8) _ 5 ?hg (N := 23) ?hd (xs := ([(wrap64 (192 + (wrap64 (Int.tdiv a0 64)))) % 256, (wrap64 (128 + (Int.tmod a0 64))) % 256] : List Int)) (inner := [.int .u8 ((wrap64 (192 + (wrap64 (Int.tdiv a0 64)))) % 256), .int .u8 ((wrap64 (128 + (Int.tmod a0 64))) % 256)]) (ok := fun _ => True) (okp := fun _ => True) ?hr ?hp (fun _ hk => hk) trivial (Below.refl _ _) (Nat.le_refl _) (by simp) ?_; (case hd => rfl); (case hg => rfl); (case hr => exact qD118); (case hp => exact (Reps.one (show Kd.M (Kd.int .u8) _ _ _ ((wrap64 (192 + (wrap64 (Int.tdiv a0 64)))) % 256) [.int .u8 ((wrap64 (192 + (wrap64 (Int.tdiv a0 64)))) % 256)] from rfl) (Reps.one (show Kd.M (Kd.int .u8) _ _ _ ((wrap64 (128 + (Int.tmod a0 64))) % 256) [.int .u8 ((wrap64 (128 + (Int.tmod a0 64))) % 256)] from rfl) (Reps.none _ _)))); intro v246 w9 ho10 hb hg_ hnew_; clear hg_ hnew_; (first | rw [← Ny245.out] at ho10 | (simp only [Int.reduceToNat] at ho10; rw [← Ny245.out] at ho10)); have n0_ := Aside0.mk (Kd.R_lower ho10 (below_size qD110)); have n1_ := Aside0.mk (below_step qD110 hb); clear HB; have HO247 := n0_; have HB := n1_; clear n0_ n1_; clear hb ho10; have hcv11 := own_string (P := Tryd.prog) Tryd.underlying86 Tryd.underlying5 Tryd.underlying9 (Kd.own_of_R HO247.out)))
       go_ret
       exact ⟨qD115, qD110⟩
     · rw [if_neg c8] at H
       have c8b0 : decide (a0 < 2048) = false := decide_eq_false c8; clear c8
       by_cases c12 : a0 < 65536
       · rw [if_pos c12] at H
         have c12b0 : decide (a0 < 65536) = true := decide_eq_true c12; clear c12; obtain ⟨y248, hy248⟩ : ∃ y_ : List Int, y_ = (([(wrap64 (224 + (wrap64 (Int.tdiv a0 4096)))) % 256, (wrap64 (128 + (Int.tmod (wrap64 (Int.tdiv a0 64)) 64))) % 256, (wrap64 (128 + (Int.tmod a0 64))) % 256] : List Int)) := ⟨_, rfl⟩
         replace H : (some (strOfNums y248)) = some r := by first | (rw [hy248]; with_reducible exact H) | (have H2_ := (Option.bind_some _ _).symm.trans H; rw [hy248]; with_reducible exact H2_) | (have H2_ := (Option.bind_some _ _).symm.trans H; with_reducible exact H2_) | with_reducible exact H | (rw [hy248]; exact H) | exact H
         have Ny248 := Aside0.mk hy248; clear hy248; obtain rfl := Option.some.inj H
         go_enter Tryd.func59, Tryd.ntmps59
         go_wp2_with (first | ((with_reducible refine gate_callee (f := 58) rfl ?_); refine goesL_ (some 4) rfl rfl Tryd.func58 (by kernel_rfl) rfl #[.int .i64 a0] rfl qD111 ?_; (with_reducible refine (rectoref02_Is.calls a0 true _ A2.out ?side1).mono ?_); (case side1 => exact qD1112); rintro e w' ⟨rfl, ⟨nd, rfl⟩⟩; refine ⟨_, rfl, ?_⟩) | ((with_reducible refine gate_dst (N := 40) rfl ?_); refine Kd.R_lit (Kd.int .u8) _ 5 ?hg (N := 40) ?hd (xs := ([(wrap64 (224 + (wrap64 (Int.tdiv a0 4096)))) % 256, (wrap64 (128 + (Int.tmod (wrap64 (Int.tdiv a0 64)) 64))) % 256, (wrap64 (128 + (Int.tmod a0 64))) % 256] : List Int)) (inner := [.int .u8 ((wrap64 (224 + (wrap64 (Int.tdiv a0 4096)))) % 256), .int .u8 ((wrap64 (128 + (Int.tmod (wrap64 (Int.tdiv a0 64)) 64))) % 256), .int .u8 ((wrap64 (128 + (Int.tmod a0 64))) % 256)]) (ok := fun _ => True) (okp := fun _ => True) ?hr ?hp (fun _ hk => hk) trivial (Below.refl _ _) (Nat.le_refl _) (by simp) ?_; (case hd => rfl); (case hg => rfl); (case hr => exact qD118); (case hp => exact (Reps.one (show Kd.M (Kd.int .u8) _ _ _ ((wrap64 (224 + (wrap64 (Int.tdiv a0 4096)))) % 256) [.int .u8 ((wrap64 (224 + (wrap64 (Int.tdiv a0 4096)))) % 256)] from rfl) (Reps.one (show Kd.M (Kd.int .u8) _ _ _ ((wrap64 (128 + (Int.tmod (wrap64 (Int.tdiv a0 64)) 64))) % 256) [.int .u8 ((wrap64 (128 + (Int.tmod (wrap64 (Int.tdiv a0 64)) 64))) % 256)] from rfl) (Reps.one (show Kd.M (Kd.int .u8) _ _ _ ((wrap64 (128 + (Int.tmod a0 64))) % 256) [.int .u8 ((wrap64 (128 + (Int.tmod a0 64))) % 256)] from rfl) (Reps.none _ _))))); intro v249 w13 ho14 hb hg_ hnew_; clear hg_ hnew_; (first | rw [← Ny248.out] at ho14 | (simp only [Int.reduceToNat] at ho14; rw [← Ny248.out] at ho14)); have n0_ := Aside0.mk (Kd.R_lower ho14 (below_size qD110)); have n1_ := Aside0.mk (below_step qD110 hb); clear HB; have HO250 := n0_; have HB := n1_; clear n0_ n1_; clear hb ho14; have hcv15 := own_string (P := Tryd.prog) Tryd.underlying86 Tryd.underlying5 Tryd.underlying9 (Kd.own_of_R HO250.out)))
         go_ret
         exact ⟨qD115, qD110⟩
       · rw [if_neg c12] at H
         have c12b0 : decide (a0 < 65536) = false := decide_eq_false c12; clear c12; obtain ⟨y251, hy251⟩ : ∃ y_ : List Int, y_ = (([(wrap64 (240 + (wrap64 (Int.tdiv a0 262144)))) % 256, (wrap64 (128 + (Int.tmod (wrap64 (Int.tdiv a0 4096)) 64))) % 256, (wrap64 (128 + (Int.tmod (wrap64 (Int.tdiv a0 64)) 64))) % 256, (wrap64 (128 + (Int.tmod a0 64))) % 256] : List Int)) := ⟨_, rfl⟩
         replace H : (some (strOfNums y251)) = some r := by first | (rw [hy251]; with_reducible exact H) | (have H2_ := (Option.bind_some _ _).symm.trans H; rw [hy251]; with_reducible exact H2_) | (have H2_ := (Option.bind_some _ _).symm.trans H; with_reducible exact H2_) | with_reducible exact H | (rw [hy251]; exact H) | exact H
         have Ny251 := Aside0.mk hy251; clear hy251; obtain rfl := Option.some.inj H
         go_enter Tryd.func59, Tryd.ntmps59
         go_wp2_with (first | ((with_reducible refine gate_callee (f := 58) rfl ?_); refine goesL_ (some 4) rfl rfl Tryd.func58 (by kernel_rfl) rfl #[.int .i64 a0] rfl qD111 ?_; (with_reducible refine (rectoref02_Is.calls a0 true _ A2.out ?side1).mono ?_); (case side1 => exact qD1112); rintro e w' ⟨rfl, ⟨nd, rfl⟩⟩; refine ⟨_, rfl, ?_⟩) | ((with_reducible refine gate_dst (N := 60) rfl ?_); refine Kd.R_lit (Kd.int .u8) _ 5 ?hg (N := 60) ?hd (xs := ([(wrap64 (240 + (wrap64 (Int.tdiv a0 262144)))) % 256, (wrap64 (128 + (Int.tmod (wrap64 (Int.tdiv a0 4096)) 64))) % 256, (wrap64 (128 + (Int.tmod (wrap64 (Int.tdiv a0 64)) 64))) % 256, (wrap64 (128 + (Int.tmod a0 64))) % 256] : List Int)) (inner := [.int .u8 ((wrap64 (240 + (wrap64 (Int.tdiv a0 262144)))) % 256), .int .u8 ((wrap64 (128 + (Int.tmod (wrap64 (Int.tdiv a0 4096)) 64))) % 256), .int .u8 ((wrap64 (128 + (Int.tmod (wrap64 (Int.tdiv a0 64)) 64))) % 256), .int .u8 ((wrap64 (128 + (Int.tmod a0 64))) % 256)]) (ok := fun _ => True) (okp := fun _ => True) ?hr ?hp (fun _ hk => hk) trivial (Below.refl _ _) (Nat.le_refl _) (by simp) ?_; (case hd => rfl); (case hg => rfl); (case hr => exact qD118); (case hp => exact (Reps.one (show Kd.M (Kd.int .u8) _ _ _ ((wrap64 (240 + (wrap64 (Int.tdiv a0 262144)))) % 256) [.int .u8 ((wrap64 (240 + (wrap64 (Int.tdiv a0 262144)))) % 256)] from rfl) (Reps.one (show Kd.M (Kd.int .u8) _ _ _ ((wrap64 (128 + (Int.tmod (wrap64 (Int.tdiv a0 4096)) 64))) % 256) [.int .u8 ((wrap64 (128 + (Int.tmod (wrap64 (Int.tdiv a0 4096)) 64))) % 256)] from rfl) (Reps.one (show Kd.M (Kd.int .u8) _ _ _ ((wrap64 (128 + (Int.tmod (wrap64 (Int.tdiv a0 64)) 64))) % 256) [.int .u8 ((wrap64 (128 + (Int.tmod (wrap64 (Int.tdiv a0 64)) 64))) % 256)] from rfl) (Reps.one (show Kd.M (Kd.int .u8) _ _ _ ((wrap64 (128 + (Int.tmod a0 64))) % 256) [.int .u8 ((wrap64 (128 + (Int.tmod a0 64))) % 256)] from rfl) (Reps.none _ _)))))); intro v252 w16 ho17 hb hg_ hnew_; clear hg_ hnew_; (first | rw [← Ny251.out] at ho17 | (simp only [Int.reduceToNat] at ho17; rw [← Ny251.out] at ho17)); have n0_ := Aside0.mk (Kd.R_lower ho17 (below_size qD110)); have n1_ := Aside0.mk (below_step qD110 hb); clear HB; have HO253 := n0_; have HB := n1_; clear n0_ n1_; clear hb ho17; have hcv18 := own_string (P := Tryd.prog) Tryd.underlying86 Tryd.underlying5 Tryd.underlying9 (Kd.own_of_R HO253.out)))
         go_ret
         exact ⟨qD115, qD110⟩
 · replace c3 := Bool.eq_false_iff.mpr c3
   subst c3
   have H1 : ((rectoref02_Bytes.f k 65533).bind fun t241 => (some t241)) = some r := by rw [if_neg (show ¬ (false = true) by decide)] at H; exact H
   clear H; have H := H1; clear H1; replace H := Option.bind_eq_some_iff.mp H; obtain ⟨t241, A190, H⟩ := H; replace H : (some t241) = some r := H; have A19 := Aside0.mk A190; clear A190; obtain rfl := Option.some.inj H
   go_enter Tryd.func59, Tryd.ntmps59
   go_wp2_with (first | ((with_reducible refine gate_callee (f := 58) rfl ?_); refine goesL_ (some 4) rfl rfl Tryd.func58 (by kernel_rfl) rfl #[.int .i64 a0] rfl qD111 ?_; (with_reducible refine (rectoref02_Is.calls a0 false _ A2.out ?side1).mono ?_); (case side1 => exact qD1112); rintro e w' ⟨rfl, ⟨nd, rfl⟩⟩; refine ⟨_, rfl, ?_⟩) | ((with_reducible refine gate_callee (f := 59) rfl ?_); refine goesL_ (some 6) rfl rfl Tryd.func59 (by kernel_rfl) rfl #[.int .i64 65533] rfl qD111 ?_; (with_reducible refine (ih k (by omega) 65533 t241 _ A19.out ?side1).mono ?_); (case side1 => exact qD1112); rintro e w20 ⟨rfl, hb⟩; refine ⟨_, rfl, ?_⟩; have n0_ := Aside0.mk (below_step qD110 hb); clear HB; have HB := n0_; clear n0_; (try clear hb); (try clear hb2); (try clear hk); (try clear hi)))
   go_ret
   exact ⟨qD115, qD110⟩

end Go.Proofs.YtgopimjfoppkmaaDoor.D
