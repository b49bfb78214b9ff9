/- Functions of the Go text as plain Lean functions, each with a proof that the machine's call comes to what it answers, under the condition that the package-level tables hold what their initialisers lay. Written by a program. -/
import Derived.Test.YtenbdffgnbibeaaDoorR0
import Derived.Test.YtenbdffgnbibeaaDoorR2
namespace Go.Proofs.YtenbdffgnbibeaaDoor.R
open Go.RowKit Go.Proofs.YtenbdffgnbibeaaDoorW.PrintWords Go.Proofs.YtenbdffgnbibeaaDoorW.PrintLast Go.Proofs.YtenbdffgnbibeaaDoorW.PrintMore
attribute [local go_sem] max2_int min2_int max_two min_two max_three min_three max_four min_four   -- for this text's walks alone
set_option linter.unusedVariables false
set_option linter.unusedSimpArgs false

/-! ### utf_strange: function 42 -/
def utf_strange.f (k : Nat) (a0 : ByteArray) : Option (Bool) := (utf_First.f k a0).bind fun bt231 => (if bt231.1 = 65533 then (some (bt231.2 == 1)) else (some false))
theorem utf_strange.mono : ∀ a0 k, LeO (utf_strange.f k a0) (utf_strange.f (k + 1) a0) := by
  intro a0 k
  unfold utf_strange.f
  repeat' first
      | (with_reducible exact utf_First.mono _ _)
      | (with_reducible exact LeO.refl _)
      | (with_reducible exact LeO.none _)
      | (with_reducible refine LeO.ite ?_ ?_)
      | (with_reducible refine LeO.bind ?_ (fun _ => ?_))
      | exact utf_First.mono _ _
      | exact LeO.none _
      | refine LeO.ite ?_ ?_
      | refine LeO.bind ?_ (fun _ => ?_)
set_option maxHeartbeats 8000000 in
set_option maxRecDepth 100000 in
theorem utf_strange.calls (k : Nat) (a0 : ByteArray) (r : Bool) (w : World) (h : utf_strange.f k a0 = some r) (HG : Aside0 (Laid w)) :
    Calls Tryd.prog 42 #[.string a0] w fun e w' => e = .returned (.bool r) ∧ Drawn0 w w' := by
  have H : ((utf_First.f k a0).bind fun bt231 => (if bt231.1 = 65533 then (some (bt231.2 == 1)) else (some false))) = some r := h
  clear h
  replace H := Option.bind_eq_some_iff.mp H
  obtain ⟨⟨t231, t232⟩, A20, H⟩ := H
  replace H : (if t231 = 65533 then (some (t232 == 1)) else (some false)) = some r := H
  have A2 := Aside0.mk A20
  clear A20
  by_cases c3 : t231 = 65533
  · rw [if_pos c3] at H
    have c3b0 : (t231 == 65533) = true := beq_iff_eq.mpr c3
    have c3b1 : (t231 != 65533) = false := bne_eq_false_iff_eq.mpr c3
    clear c3
    obtain rfl := Option.some.inj H
    go_enter Tryd.func42, Tryd.ntmps42
    go_wp2_with (first | ((with_reducible refine gate_callee (f := 17) rfl ?_); refine goesL_ (some 7) rfl rfl Tryd.func17 (by kernel_rfl) rfl #[.string a0] rfl (by (try simp only [List.map_toArray, List.map_cons, List.map_nil]); first | done | rfl | (simp only [List.length_drop, List.length_take]; rfl)) ?_; (with_reducible refine (utf_First.calls k a0 t231 t232 _ A2.out ?side1).mono ?_); (case side1 => exact Aside0.mk (by repeat (first | (with_reducible first | exact HG.out | apply Laid.drewN | apply Laid.drew) | exact HG.out))); rintro e w' ⟨rfl, ⟨nd, rfl⟩⟩; refine ⟨_, rfl, ?_⟩))
    go_ret
    exact ⟨by first | rfl | (simp; done) | (simp [*]; done), by repeat (first | exact Drawn0.refl _ | apply Drawn0.step)⟩
  · rw [if_neg c3] at H
    have c3b0 : (t231 == 65533) = false := beq_eq_false_iff_ne.mpr c3
    have c3b1 : (t231 != 65533) = true := bne_iff_ne.mpr c3
    obtain rfl := Option.some.inj H
    go_enter Tryd.func42, Tryd.ntmps42
    go_wp2_with (first | ((with_reducible refine gate_callee (f := 17) rfl ?_); refine goesL_ (some 7) rfl rfl Tryd.func17 (by kernel_rfl) rfl #[.string a0] rfl (by (try simp only [List.map_toArray, List.map_cons, List.map_nil]); first | done | rfl | (simp only [List.length_drop, List.length_take]; rfl)) ?_; (with_reducible refine (utf_First.calls k a0 t231 t232 _ A2.out ?side1).mono ?_); (case side1 => exact Aside0.mk (by repeat (first | (with_reducible first | exact HG.out | apply Laid.drewN | apply Laid.drew) | exact HG.out))); rintro e w' ⟨rfl, ⟨nd, rfl⟩⟩; refine ⟨_, rfl, ?_⟩))
    go_ret
    exact ⟨by first | rfl | (simp; done) | (simp [*]; done), by repeat (first | exact Drawn0.refl _ | apply Drawn0.step)⟩

/-! ### utf_Right: function 20 -/
def utf_Right.l0 : Nat → ByteArray → Option (Bool)
  | 0, _ => none
  | k + 1, x0 => if x0.toList = ([] : List UInt8) then (some true) else ((utf_strange.f k x0).bind fun t233 => (if t233 = true then (some false) else ((utf_First.f k x0).bind fun bt234 => (if 0 ≤ bt234.2 then (if bt234.2 ≤ (x0.size : Int) then (utf_Right.l0 k (x0.extract (bt234.2 : Int).toNat x0.size)) else (none)) else (none)))))
def utf_Right.f (k : Nat) (a0 : ByteArray) : Option (Bool) := utf_Right.l0 k a0
theorem utf_Right.mono_l : ∀ k, (∀ y0, LeO (utf_Right.l0 k y0) (utf_Right.l0 (k + 1) y0))
  | 0 => fun _ r h => by simp [utf_Right.l0] at h
  | k + 1 => by
    have ih0 := utf_Right.mono_l k
    · intro y0
      unfold utf_Right.l0
      repeat' first
      | (with_reducible exact ih0 _)
      | (with_reducible exact utf_First.mono _ _)
      | (with_reducible exact utf_strange.mono _ _)
      | (with_reducible exact LeO.refl _)
      | (with_reducible exact LeO.none _)
      | (with_reducible refine LeO.ite ?_ ?_)
      | (with_reducible refine LeO.bind ?_ (fun _ => ?_))
      | exact ih0 _
      | exact utf_First.mono _ _
      | exact utf_strange.mono _ _
      | exact LeO.none _
      | refine LeO.ite ?_ ?_
      | refine LeO.bind ?_ (fun _ => ?_)
theorem utf_Right.mono : ∀ a0 k, LeO (utf_Right.f k a0) (utf_Right.f (k + 1) a0) := by
  intro a0 k
  have ih0 := utf_Right.mono_l k
  unfold utf_Right.f
  repeat' first
      | (with_reducible exact ih0 _)
      | (with_reducible exact utf_First.mono _ _)
      | (with_reducible exact utf_strange.mono _ _)
      | (with_reducible exact LeO.refl _)
      | (with_reducible exact LeO.none _)
      | (with_reducible refine LeO.ite ?_ ?_)
      | (with_reducible refine LeO.bind ?_ (fun _ => ?_))
      | exact ih0 _
      | exact utf_First.mono _ _
      | exact utf_strange.mono _ _
      | exact LeO.none _
      | refine LeO.ite ?_ ?_
      | refine LeO.bind ?_ (fun _ => ?_)
set_option maxHeartbeats 8000000 in
set_option maxRecDepth 100000 in
theorem utf_Right.calls (k : Nat) (a0 : ByteArray) (r : Bool) (w : World) (h : utf_Right.f k a0 = some r) (HG : Aside0 (Laid w)) :
    Calls Tryd.prog 20 #[.string a0] w fun e w' => e = .returned (.bool r) ∧ Drawn0 w w' := by
  have H : (utf_Right.l0 k a0) = some r := h
  clear h
  have H' := Aside0.mk H
  clear H
  go_enter Tryd.func20, Tryd.ntmps20
  go_wp2
  go_loopg [0] k (fun kq v0 w' => ∃ (x0_1 : ByteArray), v0 = .string x0_1 ∧ Aside0 (utf_Right.l0 kq x0_1 = some r) ∧ Aside0 (kq ≤ k) ∧ Drawn0 w w')
  case atStart => exact ⟨(a0), (by first | rfl | (simp; done) | (simp [*]; done)), H', ⟨Nat.le_refl _⟩, by repeat (first | exact Drawn0.refl _ | apply Drawn0.step)⟩
  case round =>
    clear H'
    obtain ⟨x0_1, rfl, HA, HK1, ⟨m1, rfl⟩⟩ := hrel
    cases gk with
    | zero => exact absurd HA.out (by simp [utf_Right.l0])
    | succ k1 =>
      have H := HA.out
      clear HA
      simp only [utf_Right.l0] at H
      by_cases c2 : x0_1.toList = ([] : List UInt8)
      · rw [if_pos c2] at H
        have c2b0 : (x0_1.toList == ([] : List UInt8)) = true := beq_iff_eq.mpr c2
        have c2b1 : (x0_1.toList != ([] : List UInt8)) = false := bne_eq_false_iff_eq.mpr c2
        clear c2
        obtain rfl := Option.some.inj H
        go_wp2
        go_ret
        exact ⟨by first | rfl | (simp; done) | (simp [*]; done), by repeat (first | exact Drawn0.refl _ | apply Drawn0.step)⟩
      · rw [if_neg c2] at H
        have c2b0 : (x0_1.toList == ([] : List UInt8)) = false := beq_eq_false_iff_ne.mpr c2
        have c2b1 : (x0_1.toList != ([] : List UInt8)) = true := bne_iff_ne.mpr c2
        replace H := Option.bind_eq_some_iff.mp H
        obtain ⟨t233, A30, H⟩ := H
        replace H : (if t233 = true then (some false) else ((utf_First.f k1 x0_1).bind fun bt234 => (if 0 ≤ bt234.2 then (if bt234.2 ≤ (x0_1.size : Int) then (utf_Right.l0 k1 (x0_1.extract (bt234.2 : Int).toNat x0_1.size)) else (none)) else (none)))) = some r := H
        have A3 := Aside0.mk A30
        clear A30
        by_cases c4 : t233 = true
        · subst c4
          have H1 : (some false) = some r := by rw [if_pos rfl] at H; exact H
          clear H
          have H := H1
          clear H1
          obtain rfl := Option.some.inj H
          go_wp2_with (first | ((with_reducible refine gate_callee (f := 42) rfl ?_); refine goesL_ (some 8) rfl rfl Tryd.func42 (by kernel_rfl) rfl #[.string x0_1] rfl (by (try simp only [List.map_toArray, List.map_cons, List.map_nil]); first | done | rfl | (simp only [List.length_drop, List.length_take]; rfl)) ?_; (with_reducible refine (utf_strange.calls k1 x0_1 true _ A3.out ?side1).mono ?_); (case side1 => exact Aside0.mk (by repeat (first | (with_reducible first | exact HG.out | apply Laid.drewN | apply Laid.drew) | exact HG.out))); rintro e w' ⟨rfl, ⟨nd, rfl⟩⟩; refine ⟨_, rfl, ?_⟩))
          go_ret
          exact ⟨by first | rfl | (simp; done) | (simp [*]; done), by repeat (first | exact Drawn0.refl _ | apply Drawn0.step)⟩
        · replace c4 := Bool.eq_false_iff.mpr c4
          subst c4
          have H1 : ((utf_First.f k1 x0_1).bind fun bt234 => (if 0 ≤ bt234.2 then (if bt234.2 ≤ (x0_1.size : Int) then (utf_Right.l0 k1 (x0_1.extract (bt234.2 : Int).toNat x0_1.size)) else (none)) else (none))) = some r := by rw [if_neg (show ¬ (false = true) by decide)] at H; exact H
          clear H
          have H := H1
          clear H1
          replace H := Option.bind_eq_some_iff.mp H
          obtain ⟨⟨t234, t235⟩, A50, H⟩ := H
          replace H : (if 0 ≤ t235 then (if t235 ≤ (x0_1.size : Int) then (utf_Right.l0 k1 (x0_1.extract (t235 : Int).toNat x0_1.size)) else (none)) else (none)) = some r := H
          have A5 := Aside0.mk A50
          clear A50
          by_cases c6 : 0 ≤ t235
          · rw [if_pos c6] at H
            have c6b0 := eq_true c6
            have c6b1 : decide (0 ≤ t235) = true := decide_eq_true c6
            clear c6
            by_cases c7 : t235 ≤ (x0_1.size : Int)
            · rw [if_pos c7] at H
              have c7b0 := eq_true c7
              have c7b1 : decide (t235 ≤ (x0_1.size : Int)) = true := decide_eq_true c7
              clear c7
              have H' := Aside0.mk H
              clear H
              go_wp2_with (first | ((with_reducible refine gate_callee (f := 42) rfl ?_); refine goesL_ (some 8) rfl rfl Tryd.func42 (by kernel_rfl) rfl #[.string x0_1] rfl (by (try simp only [List.map_toArray, List.map_cons, List.map_nil]); first | done | rfl | (simp only [List.length_drop, List.length_take]; rfl)) ?_; (with_reducible refine (utf_strange.calls k1 x0_1 false _ A3.out ?side1).mono ?_); (case side1 => exact Aside0.mk (by repeat (first | (with_reducible first | exact HG.out | apply Laid.drewN | apply Laid.drew) | exact HG.out))); rintro e w' ⟨rfl, ⟨nd, rfl⟩⟩; refine ⟨_, rfl, ?_⟩) | ((with_reducible refine gate_callee (f := 17) rfl ?_); refine goesL_ (some 11) rfl rfl Tryd.func17 (by kernel_rfl) rfl #[.string x0_1] rfl (by (try simp only [List.map_toArray, List.map_cons, List.map_nil]); first | done | rfl | (simp only [List.length_drop, List.length_take]; rfl)) ?_; (with_reducible refine (utf_First.calls k1 x0_1 t234 t235 _ A5.out ?side1).mono ?_); (case side1 => exact Aside0.mk (by repeat (first | (with_reducible first | exact HG.out | apply Laid.drewN | apply Laid.drew) | exact HG.out))); rintro e w' ⟨rfl, ⟨nd, rfl⟩⟩; refine ⟨_, rfl, ?_⟩))
              go_roundg k1
              case measure => have := HK1.out; omega
              case rel => exact ⟨(x0_1.extract (t235 : Int).toNat x0_1.size), (by first | rfl | (simp; done) | (simp [*]; done)), H', ⟨by have := HK1.out; omega⟩, by repeat (first | exact Drawn0.refl _ | apply Drawn0.step)⟩
            · rw [if_neg c7] at H
              exact absurd H (by simp)
          · rw [if_neg c6] at H
            exact absurd H (by simp)

end Go.Proofs.YtenbdffgnbibeaaDoor.R
