/- Functions of the Go text as plain Lean functions, each with a proof that the machine's call comes to what it answers, under the condition that the package-level tables hold what their initialisers lay. Written by a program. -/
import Derived.Test.YtenbdffgnbibeaaDoorX0
import Derived.Test.YtenbdffgnbibeaaDoorX1
import Derived.Test.YtenbdffgnbibeaaDoorX2
import Derived.Test.YtenbdffgnbibeaaDoorX3
import Derived.Test.YtenbdffgnbibeaaDoorXLib
namespace Go.Proofs.YtenbdffgnbibeaaDoor.X
open Go.RowKit Go.Proofs.YtenbdffgnbibeaaDoorW.PrintWords Go.Proofs.YtenbdffgnbibeaaDoorW.PrintLast Go.Proofs.YtenbdffgnbibeaaDoorW.PrintMore
attribute [local go_sem] max2_int min2_int max_two min_two max_three min_three max_four min_four   -- for this text's walks alone
set_option linter.unusedVariables false
set_option linter.unusedSimpArgs false

-- by hand: strings.CutPrefix

/-! ### chars_Letter: function 58 -/
def chars_Letter.f (a0 : Int) : Option (Bool) := if a0 ≥ 65 then (if a0 ≤ 90 then (some true) else (if a0 ≥ 97 then (some (decide (a0 ≤ 122))) else (some false))) else (if a0 ≥ 97 then (some (decide (a0 ≤ 122))) else (some false))
set_option maxHeartbeats 8000000 in
set_option maxRecDepth 100000 in
theorem chars_Letter.calls (a0 : Int) (r : Bool) (w : World) (h : chars_Letter.f a0 = some r) (HG : Aside0 (Laid w)) :
    Calls Tryd.prog 58 #[.int .u8 a0] w fun e w' => e = .returned (.bool r) ∧ Drawn0 w w' := by
  have H : (if a0 ≥ 65 then (if a0 ≤ 90 then (some true) else (if a0 ≥ 97 then (some (decide (a0 ≤ 122))) else (some false))) else (if a0 ≥ 97 then (some (decide (a0 ≤ 122))) else (some false))) = some r := h
  clear h
  by_cases c2 : a0 ≥ 65
  · rw [if_pos c2] at H
    have c2b0 : decide (65 ≤ a0) = true := decide_eq_true c2
    clear c2
    by_cases c3 : a0 ≤ 90
    · rw [if_pos c3] at H
      have c3b0 : decide (a0 ≤ 90) = true := decide_eq_true c3
      clear c3
      obtain rfl := Option.some.inj H
      go_enter Tryd.func58, Tryd.ntmps58
      go_wp2
      go_ret
      exact ⟨by first | rfl | (simp; done) | (simp [*]; done), by repeat (first | exact Drawn0.refl _ | apply Drawn0.step)⟩
    · rw [if_neg c3] at H
      have c3b0 : decide (a0 ≤ 90) = false := decide_eq_false c3
      clear c3
      by_cases c4 : a0 ≥ 97
      · rw [if_pos c4] at H
        have c4b0 : decide (97 ≤ a0) = true := decide_eq_true c4
        clear c4
        obtain rfl := Option.some.inj H
        go_enter Tryd.func58, Tryd.ntmps58
        go_wp2
        go_ret
        exact ⟨by first | rfl | (simp; done) | (simp [*]; done), by repeat (first | exact Drawn0.refl _ | apply Drawn0.step)⟩
      · rw [if_neg c4] at H
        have c4b0 : decide (97 ≤ a0) = false := decide_eq_false c4
        clear c4
        obtain rfl := Option.some.inj H
        go_enter Tryd.func58, Tryd.ntmps58
        go_wp2
        go_ret
        exact ⟨by first | rfl | (simp; done) | (simp [*]; done), by repeat (first | exact Drawn0.refl _ | apply Drawn0.step)⟩
  · rw [if_neg c2] at H
    have c2b0 : decide (65 ≤ a0) = false := decide_eq_false c2
    clear c2
    by_cases c5 : a0 ≥ 97
    · rw [if_pos c5] at H
      have c5b0 : decide (97 ≤ a0) = true := decide_eq_true c5
      clear c5
      obtain rfl := Option.some.inj H
      go_enter Tryd.func58, Tryd.ntmps58
      go_wp2
      go_ret
      exact ⟨by first | rfl | (simp; done) | (simp [*]; done), by repeat (first | exact Drawn0.refl _ | apply Drawn0.step)⟩
    · rw [if_neg c5] at H
      have c5b0 : decide (97 ≤ a0) = false := decide_eq_false c5
      clear c5
      obtain rfl := Option.some.inj H
      go_enter Tryd.func58, Tryd.ntmps58
      go_wp2
      go_ret
      exact ⟨by first | rfl | (simp; done) | (simp [*]; done), by repeat (first | exact Drawn0.refl _ | apply Drawn0.step)⟩

/-! ### refs_named: function 47 -/
mutual
def refs_named.l0 : Nat → ByteArray → Bool → Int → Int → Int → Option (Int × Int)
  | 0, _, _, _, _, _ => none
  | k + 1, x0, x1, x6, x7, x14 => if x14 < 28 then (if 0 ≤ x14 then ((strings_CutPrefix.f x0 ((rd_T75 tab_1 x14).f0)).bind fun bt122 => (if bt122.2 = true then ((strings_HasPrefix.f bt122.1 (⟨#[59]⟩ : ByteArray)).bind fun t124 => (if t124 = true then (if (wrap64 ((((rd_T75 tab_1 x14).f0).size : Int) + 1)) > x7 then (refs_named.l0 k x0 x1 ((rd_T75 tab_1 x14).f1) (wrap64 ((((rd_T75 tab_1 x14).f0).size : Int) + 1)) (wrap64 (x14 + 1))) else (refs_named.l0 k x0 x1 x6 x7 (wrap64 (x14 + 1)))) else (if (((rd_T75 tab_1 x14).f2) = true) then (if x1 = true then (if bt122.1.toList = ([] : List UInt8) then (refs_named.j1 k x0 x1 x6 x7 (((rd_T75 tab_1 x14).f0).size : Int) x14 false ((rd_T75 tab_1 x14).f0) ((rd_T75 tab_1 x14).f1) ((rd_T75 tab_1 x14).f2)) else (if 0 < (bt122.1.size : Int) then (if (bt bt122.1 0) = 61 then (refs_named.j1 k x0 x1 x6 x7 (((rd_T75 tab_1 x14).f0).size : Int) x14 true ((rd_T75 tab_1 x14).f0) ((rd_T75 tab_1 x14).f1) ((rd_T75 tab_1 x14).f2)) else ((chars_Letter.f (bt bt122.1 0)).bind fun t125 => (if t125 = true then (refs_named.j1 k x0 x1 x6 x7 (((rd_T75 tab_1 x14).f0).size : Int) x14 true ((rd_T75 tab_1 x14).f0) ((rd_T75 tab_1 x14).f1) ((rd_T75 tab_1 x14).f2)) else ((chars_Digit.f (bt bt122.1 0)).bind fun t126 => (refs_named.j1 k x0 x1 x6 x7 (((rd_T75 tab_1 x14).f0).size : Int) x14 t126 ((rd_T75 tab_1 x14).f0) ((rd_T75 tab_1 x14).f1) ((rd_T75 tab_1 x14).f2)))))) else (none))) else (refs_named.j1 k x0 x1 x6 x7 (((rd_T75 tab_1 x14).f0).size : Int) x14 false ((rd_T75 tab_1 x14).f0) ((rd_T75 tab_1 x14).f1) ((rd_T75 tab_1 x14).f2))) else (refs_named.j1 k x0 x1 x6 x7 (((rd_T75 tab_1 x14).f0).size : Int) x14 true ((rd_T75 tab_1 x14).f0) ((rd_T75 tab_1 x14).f1) ((rd_T75 tab_1 x14).f2))))) else (refs_named.l0 k x0 x1 x6 x7 (wrap64 (x14 + 1))))) else (none)) else (some (x6, x7))
def refs_named.j1 : Nat → ByteArray → Bool → Int → Int → Int → Int → Bool → ByteArray → Int → Bool → Option (Int × Int)
  | 0, _, _, _, _, _, _, _, _, _, _ => none
  | k + 1, x0, x1, x6, x7, x12, x14, x57, x122000, x122001, x122002 => if x57 = true then (refs_named.l0 k x0 x1 x6 x7 (wrap64 (x14 + 1))) else (if x12 > x7 then (refs_named.l0 k x0 x1 x122001 x12 (wrap64 (x14 + 1))) else (refs_named.l0 k x0 x1 x6 x7 (wrap64 (x14 + 1))))
end
def refs_named.f (k : Nat) (a0 : ByteArray) (a1 : Bool) : Option (Int × Int) := refs_named.l0 k a0 a1 0 0 0
theorem refs_named.mono_l : ∀ k, (∀ y0 y1 y2 y3 y4, LeO (refs_named.l0 k y0 y1 y2 y3 y4) (refs_named.l0 (k + 1) y0 y1 y2 y3 y4)) ∧ (∀ y0 y1 y2 y3 y4 y5 y6 y7 y8 y9, LeO (refs_named.j1 k y0 y1 y2 y3 y4 y5 y6 y7 y8 y9) (refs_named.j1 (k + 1) y0 y1 y2 y3 y4 y5 y6 y7 y8 y9))
  | 0 => ⟨fun _ _ _ _ _ r h => by simp [refs_named.l0] at h, fun _ _ _ _ _ _ _ _ _ _ r h => by simp [refs_named.j1] at h⟩
  | k + 1 => by
    obtain ⟨ih0, ih1⟩ := refs_named.mono_l k
    refine ⟨?_, ?_⟩
    · intro y0 y1 y2 y3 y4
      unfold refs_named.l0
      repeat' first
      | (with_reducible exact ih0 _ _ _ _ _)
      | (with_reducible exact ih1 _ _ _ _ _ _ _ _ _ _)
      | (with_reducible exact LeO.refl _)
      | (with_reducible exact LeO.none _)
      | (with_reducible refine LeO.ite ?_ ?_)
      | (with_reducible refine LeO.bind ?_ (fun _ => ?_))
      | exact ih0 _ _ _ _ _
      | exact ih1 _ _ _ _ _ _ _ _ _ _
      | exact LeO.none _
      | refine LeO.ite ?_ ?_
      | refine LeO.bind ?_ (fun _ => ?_)
    · intro y0 y1 y2 y3 y4 y5 y6 y7 y8 y9
      unfold refs_named.j1
      repeat' first
      | (with_reducible exact ih0 _ _ _ _ _)
      | (with_reducible exact ih1 _ _ _ _ _ _ _ _ _ _)
      | (with_reducible exact LeO.refl _)
      | (with_reducible exact LeO.none _)
      | (with_reducible refine LeO.ite ?_ ?_)
      | (with_reducible refine LeO.bind ?_ (fun _ => ?_))
      | exact ih0 _ _ _ _ _
      | exact ih1 _ _ _ _ _ _ _ _ _ _
      | exact LeO.none _
      | refine LeO.ite ?_ ?_
      | refine LeO.bind ?_ (fun _ => ?_)
theorem refs_named.mono : ∀ a0 a1 k, LeO (refs_named.f k a0 a1) (refs_named.f (k + 1) a0 a1) := by
  intro a0 a1 k
  obtain ⟨ih0, ih1⟩ := refs_named.mono_l k
  unfold refs_named.f
  repeat' first
      | (with_reducible exact ih0 _ _ _ _ _)
      | (with_reducible exact ih1 _ _ _ _ _ _ _ _ _ _)
      | (with_reducible exact LeO.refl _)
      | (with_reducible exact LeO.none _)
      | (with_reducible refine LeO.ite ?_ ?_)
      | (with_reducible refine LeO.bind ?_ (fun _ => ?_))
      | exact ih0 _ _ _ _ _
      | exact ih1 _ _ _ _ _ _ _ _ _ _
      | exact LeO.none _
      | refine LeO.ite ?_ ?_
      | refine LeO.bind ?_ (fun _ => ?_)
set_option maxHeartbeats 8000000 in
set_option maxRecDepth 100000 in
theorem refs_named.calls (k : Nat) (a0 : ByteArray) (a1 : Bool) (r1 : Int) (r2 : Int) (w : World) (h : refs_named.f k a0 a1 = some (r1, r2)) (HG : Aside0 (Laid w)) :
    Calls Tryd.prog 47 #[.string a0, .bool a1] w fun e w' => e = .returned (.tuple #[.int .i64 r1, .int .i64 r2]) ∧ Below w.heap.size w w' := by
  have hu75 := Tryd.underlying75
  have HB := Aside0.mk (Below.refl w.heap.size w)
  have H : (refs_named.l0 k a0 a1 0 0 0) = some (r1, r2) := h
  clear h
  have H' := Aside0.mk H
  clear H
  go_enter Tryd.func47, Tryd.ntmps47
  go_wp2_with (first | ((refine wpList_tab_1 rfl rfl ?sideL ?_); (case sideL => first | exact HG.out | exact Laid.below HG.out (by repeat (first | (with_reducible first | exact HB.out | apply below_alloc | apply pw_below_drewN | apply below_drew1) | exact HB.out)) | exact (by repeat (first | (with_reducible first | exact HG.out | apply Laid.drewN | apply Laid.drew) | exact HG.out))); dsimp only))
  go_loopg [6, 7, 14] k (fun kq v6 v7 v14 w' => ∃ (x6_1 : Int) (x7_1 : Int) (x14_1 : Int), v6 = .int .i64 x6_1 ∧ v7 = .int .i64 x7_1 ∧ v14 = .int .i64 x14_1 ∧ Aside0 (refs_named.l0 kq a0 a1 x6_1 x7_1 x14_1 = some (r1, r2)) ∧ Aside0 (kq ≤ k) ∧ Aside0 (Below w.heap.size w w'))
  case atStart => exact ⟨(0), (0), (0), (by first | rfl | (simp; done) | (simp [*]; done)), (by first | rfl | (simp; done) | (simp [*]; done)), (by first | rfl | (simp; done) | (simp [*]; done)), H', ⟨Nat.le_refl _⟩, ⟨by repeat (first | (with_reducible first | exact HB.out | apply below_alloc | apply pw_below_drewN | apply below_drew1) | exact HB.out)⟩⟩
  case round =>
    clear H'
    try clear p2
    obtain ⟨x6_1, x7_1, x14_1, rfl, rfl, rfl, HA, HK1, HB⟩ := hrel
    cases gk with
    | zero => exact absurd HA.out (by simp [refs_named.l0])
    | succ k1 =>
      have H := HA.out
      clear HA
      simp only [refs_named.l0] at H
      by_cases c4 : x14_1 < 28
      · rw [if_pos c4] at H
        have c4b0 : decide (x14_1 < 28) = true := decide_eq_true c4
        clear c4
        by_cases c5 : 0 ≤ x14_1
        · rw [if_pos c5] at H
          have c5b0 : decide (0 ≤ x14_1) = true := decide_eq_true c5
          clear c5
          replace H := Option.bind_eq_some_iff.mp H
          obtain ⟨⟨t122, t123⟩, A70, H⟩ := H
          replace H : (if t123 = true then ((strings_HasPrefix.f t122 (⟨#[59]⟩ : ByteArray)).bind fun t124 => (if t124 = true then (if (wrap64 ((((rd_T75 tab_1 x14_1).f0).size : Int) + 1)) > x7_1 then (refs_named.l0 k1 a0 a1 ((rd_T75 tab_1 x14_1).f1) (wrap64 ((((rd_T75 tab_1 x14_1).f0).size : Int) + 1)) (wrap64 (x14_1 + 1))) else (refs_named.l0 k1 a0 a1 x6_1 x7_1 (wrap64 (x14_1 + 1)))) else (if (((rd_T75 tab_1 x14_1).f2) = true) then (if a1 = true then (if t122.toList = ([] : List UInt8) then (refs_named.j1 k1 a0 a1 x6_1 x7_1 (((rd_T75 tab_1 x14_1).f0).size : Int) x14_1 false ((rd_T75 tab_1 x14_1).f0) ((rd_T75 tab_1 x14_1).f1) ((rd_T75 tab_1 x14_1).f2)) else (if 0 < (t122.size : Int) then (if (bt t122 0) = 61 then (refs_named.j1 k1 a0 a1 x6_1 x7_1 (((rd_T75 tab_1 x14_1).f0).size : Int) x14_1 true ((rd_T75 tab_1 x14_1).f0) ((rd_T75 tab_1 x14_1).f1) ((rd_T75 tab_1 x14_1).f2)) else ((chars_Letter.f (bt t122 0)).bind fun t125 => (if t125 = true then (refs_named.j1 k1 a0 a1 x6_1 x7_1 (((rd_T75 tab_1 x14_1).f0).size : Int) x14_1 true ((rd_T75 tab_1 x14_1).f0) ((rd_T75 tab_1 x14_1).f1) ((rd_T75 tab_1 x14_1).f2)) else ((chars_Digit.f (bt t122 0)).bind fun t126 => (refs_named.j1 k1 a0 a1 x6_1 x7_1 (((rd_T75 tab_1 x14_1).f0).size : Int) x14_1 t126 ((rd_T75 tab_1 x14_1).f0) ((rd_T75 tab_1 x14_1).f1) ((rd_T75 tab_1 x14_1).f2)))))) else (none))) else (refs_named.j1 k1 a0 a1 x6_1 x7_1 (((rd_T75 tab_1 x14_1).f0).size : Int) x14_1 false ((rd_T75 tab_1 x14_1).f0) ((rd_T75 tab_1 x14_1).f1) ((rd_T75 tab_1 x14_1).f2))) else (refs_named.j1 k1 a0 a1 x6_1 x7_1 (((rd_T75 tab_1 x14_1).f0).size : Int) x14_1 true ((rd_T75 tab_1 x14_1).f0) ((rd_T75 tab_1 x14_1).f1) ((rd_T75 tab_1 x14_1).f2))))) else (refs_named.l0 k1 a0 a1 x6_1 x7_1 (wrap64 (x14_1 + 1)))) = some (r1, r2) := H
          have A7 := Aside0.mk A70
          clear A70
          by_cases c8 : t123 = true
          · subst c8
            have H1 : ((strings_HasPrefix.f t122 (⟨#[59]⟩ : ByteArray)).bind fun t124 => (if t124 = true then (if (wrap64 ((((rd_T75 tab_1 x14_1).f0).size : Int) + 1)) > x7_1 then (refs_named.l0 k1 a0 a1 ((rd_T75 tab_1 x14_1).f1) (wrap64 ((((rd_T75 tab_1 x14_1).f0).size : Int) + 1)) (wrap64 (x14_1 + 1))) else (refs_named.l0 k1 a0 a1 x6_1 x7_1 (wrap64 (x14_1 + 1)))) else (if (((rd_T75 tab_1 x14_1).f2) = true) then (if a1 = true then (if t122.toList = ([] : List UInt8) then (refs_named.j1 k1 a0 a1 x6_1 x7_1 (((rd_T75 tab_1 x14_1).f0).size : Int) x14_1 false ((rd_T75 tab_1 x14_1).f0) ((rd_T75 tab_1 x14_1).f1) ((rd_T75 tab_1 x14_1).f2)) else (if 0 < (t122.size : Int) then (if (bt t122 0) = 61 then (refs_named.j1 k1 a0 a1 x6_1 x7_1 (((rd_T75 tab_1 x14_1).f0).size : Int) x14_1 true ((rd_T75 tab_1 x14_1).f0) ((rd_T75 tab_1 x14_1).f1) ((rd_T75 tab_1 x14_1).f2)) else ((chars_Letter.f (bt t122 0)).bind fun t125 => (if t125 = true then (refs_named.j1 k1 a0 a1 x6_1 x7_1 (((rd_T75 tab_1 x14_1).f0).size : Int) x14_1 true ((rd_T75 tab_1 x14_1).f0) ((rd_T75 tab_1 x14_1).f1) ((rd_T75 tab_1 x14_1).f2)) else ((chars_Digit.f (bt t122 0)).bind fun t126 => (refs_named.j1 k1 a0 a1 x6_1 x7_1 (((rd_T75 tab_1 x14_1).f0).size : Int) x14_1 t126 ((rd_T75 tab_1 x14_1).f0) ((rd_T75 tab_1 x14_1).f1) ((rd_T75 tab_1 x14_1).f2)))))) else (none))) else (refs_named.j1 k1 a0 a1 x6_1 x7_1 (((rd_T75 tab_1 x14_1).f0).size : Int) x14_1 false ((rd_T75 tab_1 x14_1).f0) ((rd_T75 tab_1 x14_1).f1) ((rd_T75 tab_1 x14_1).f2))) else (refs_named.j1 k1 a0 a1 x6_1 x7_1 (((rd_T75 tab_1 x14_1).f0).size : Int) x14_1 true ((rd_T75 tab_1 x14_1).f0) ((rd_T75 tab_1 x14_1).f1) ((rd_T75 tab_1 x14_1).f2))))) = some (r1, r2) := by rw [if_pos rfl] at H; exact H
            clear H
            have H := H1
            clear H1
            replace H := Option.bind_eq_some_iff.mp H
            obtain ⟨t124, A90, H⟩ := H
            replace H : (if t124 = true then (if (wrap64 ((((rd_T75 tab_1 x14_1).f0).size : Int) + 1)) > x7_1 then (refs_named.l0 k1 a0 a1 ((rd_T75 tab_1 x14_1).f1) (wrap64 ((((rd_T75 tab_1 x14_1).f0).size : Int) + 1)) (wrap64 (x14_1 + 1))) else (refs_named.l0 k1 a0 a1 x6_1 x7_1 (wrap64 (x14_1 + 1)))) else (if (((rd_T75 tab_1 x14_1).f2) = true) then (if a1 = true then (if t122.toList = ([] : List UInt8) then (refs_named.j1 k1 a0 a1 x6_1 x7_1 (((rd_T75 tab_1 x14_1).f0).size : Int) x14_1 false ((rd_T75 tab_1 x14_1).f0) ((rd_T75 tab_1 x14_1).f1) ((rd_T75 tab_1 x14_1).f2)) else (if 0 < (t122.size : Int) then (if (bt t122 0) = 61 then (refs_named.j1 k1 a0 a1 x6_1 x7_1 (((rd_T75 tab_1 x14_1).f0).size : Int) x14_1 true ((rd_T75 tab_1 x14_1).f0) ((rd_T75 tab_1 x14_1).f1) ((rd_T75 tab_1 x14_1).f2)) else ((chars_Letter.f (bt t122 0)).bind fun t125 => (if t125 = true then (refs_named.j1 k1 a0 a1 x6_1 x7_1 (((rd_T75 tab_1 x14_1).f0).size : Int) x14_1 true ((rd_T75 tab_1 x14_1).f0) ((rd_T75 tab_1 x14_1).f1) ((rd_T75 tab_1 x14_1).f2)) else ((chars_Digit.f (bt t122 0)).bind fun t126 => (refs_named.j1 k1 a0 a1 x6_1 x7_1 (((rd_T75 tab_1 x14_1).f0).size : Int) x14_1 t126 ((rd_T75 tab_1 x14_1).f0) ((rd_T75 tab_1 x14_1).f1) ((rd_T75 tab_1 x14_1).f2)))))) else (none))) else (refs_named.j1 k1 a0 a1 x6_1 x7_1 (((rd_T75 tab_1 x14_1).f0).size : Int) x14_1 false ((rd_T75 tab_1 x14_1).f0) ((rd_T75 tab_1 x14_1).f1) ((rd_T75 tab_1 x14_1).f2))) else (refs_named.j1 k1 a0 a1 x6_1 x7_1 (((rd_T75 tab_1 x14_1).f0).size : Int) x14_1 true ((rd_T75 tab_1 x14_1).f0) ((rd_T75 tab_1 x14_1).f1) ((rd_T75 tab_1 x14_1).f2)))) = some (r1, r2) := H
            have A9 := Aside0.mk A90
            clear A90
            by_cases c10 : t124 = true
            · subst c10
              have H1 : (if (wrap64 ((((rd_T75 tab_1 x14_1).f0).size : Int) + 1)) > x7_1 then (refs_named.l0 k1 a0 a1 ((rd_T75 tab_1 x14_1).f1) (wrap64 ((((rd_T75 tab_1 x14_1).f0).size : Int) + 1)) (wrap64 (x14_1 + 1))) else (refs_named.l0 k1 a0 a1 x6_1 x7_1 (wrap64 (x14_1 + 1)))) = some (r1, r2) := by rw [if_pos rfl] at H; exact H
              clear H
              have H := H1
              clear H1
              by_cases c11 : (wrap64 ((((rd_T75 tab_1 x14_1).f0).size : Int) + 1)) > x7_1
              · rw [if_pos c11] at H
                have c11b0 : decide (x7_1 < (wrap64 ((((rd_T75 tab_1 x14_1).f0).size : Int) + 1))) = true := decide_eq_true c11
                clear c11
                have H' := Aside0.mk H
                clear H
                have p6 : 0 ≤ (x14_1 : Int) := of_decide_eq_true (by first | (with_reducible assumption) | assumption)
                have q6 : (x14_1 : Int) < 28 := of_decide_eq_true (by first | (with_reducible assumption) | assumption)
                have hix6 := index_tab_1 p6 q6
                clear p6 q6
                go_wp2_with (first | ((with_reducible refine gate_dst (N := 9) rfl ?_); refine box_event ?hg (N := 9) ?hd (cs := #[.string (⟨#[]⟩ : ByteArray), .int .i64 0, .bool false]) (t := 75) ?hr ?_; (case hd => rfl); (case hg => rfl); (case hr => first | (go_simp; done) | (go_simp; rfl)); intro gb121 hg w12 hbox hb; have n0_ := Aside0.mk (below_step (by repeat (first | (with_reducible first | exact HB.out | apply below_alloc | apply pw_below_drewN | apply below_drew1) | exact HB.out)) hb); have n1_ := Aside0.mk (hbox); have n2_ := Aside0.mk ((by rw [hg]; exact (below_size (by repeat (first | (with_reducible first | exact HB.out | apply below_alloc | apply pw_below_drewN | apply below_drew1) | exact HB.out))) : w.heap.size ≤ gb121)); have n3_ := Aside0.mk ((by rw [hg]; exact (below_size (by repeat (first | (with_reducible first | exact HB.out | apply below_alloc | apply pw_below_drewN | apply below_drew1) | exact HB.out))) : w.heap.size ≤ gb121)); clear HB; have HB := n0_; have BK121 := n1_; have GW121 := n2_; have GE121 := n3_; clear n0_ n1_ n2_ n3_; clear hb hbox hg; have hcz13_0 : w12.cell? ⟨gb121, 0, none⟩ = some (.string (⟨#[]⟩ : ByteArray)) := (blk_cell BK121.out 0).trans rfl; have hcz13_1 : w12.cell? ⟨gb121, 1, none⟩ = some (.int .i64 0) := (blk_cell BK121.out 1).trans rfl; have hcz13_2 : w12.cell? ⟨gb121, 2, none⟩ = some (.bool false) := (blk_cell BK121.out 2).trans rfl; have hfz13_0 := blk_frozen BK121.out 0; have hfz13_1 := blk_frozen BK121.out 1; have hfz13_2 := blk_frozen BK121.out 2) | ((with_reducible refine gate_callee (f := 57) rfl ?_); refine goesL_ (some 21) rfl rfl Tryd.func57 (by kernel_rfl) rfl #[.string a0, .string ((rd_T75 tab_1 x14_1).f0)] rfl (by (try simp only [List.map_toArray, List.map_cons, List.map_nil]); first | done | rfl | (simp only [List.length_drop, List.length_take]; rfl)) ?_; (with_reducible refine (strings_CutPrefix.calls a0 ((rd_T75 tab_1 x14_1).f0) t122 true _ A7.out ?side1).mono ?_); (case side1 => exact Aside0.mk (Laid.below HG.out (by repeat (first | (with_reducible first | exact HB.out | apply below_alloc | apply pw_below_drewN | apply below_drew1 | refine below_set ?_ GE121.out) | exact HB.out)))); rintro e w' ⟨rfl, ⟨nd, rfl⟩⟩; refine ⟨_, rfl, ?_⟩) | ((with_reducible refine gate_callee (f := 45) rfl ?_); refine goesL_ (some 30) rfl rfl Tryd.func45 (by kernel_rfl) rfl #[.string t122, .string (⟨#[59]⟩ : ByteArray)] rfl (by (try simp only [List.map_toArray, List.map_cons, List.map_nil]); first | done | rfl | (simp only [List.length_drop, List.length_take]; rfl)) ?_; (with_reducible refine (strings_HasPrefix.calls t122 (⟨#[59]⟩ : ByteArray) true _ A9.out ?side1).mono ?_); (case side1 => exact Aside0.mk (Laid.below HG.out (by repeat (first | (with_reducible first | exact HB.out | apply below_alloc | apply pw_below_drewN | apply below_drew1 | refine below_set ?_ GE121.out) | exact HB.out)))); rintro e w' ⟨rfl, ⟨nd, rfl⟩⟩; refine ⟨_, rfl, ?_⟩))
                go_roundg k1
                case measure => have := HK1.out; omega
                case rel => exact ⟨(((rd_T75 tab_1 x14_1).f1)), (wrap64 ((((rd_T75 tab_1 x14_1).f0).size : Int) + 1)), (wrap64 (x14_1 + 1)), (by first | rfl | (simp; done) | (simp [*]; done)), (by first | rfl | (simp; done) | (simp [*]; done)), (by first | rfl | (simp; done) | (simp [*]; done)), H', ⟨by have := HK1.out; omega⟩, ⟨by repeat (first | (with_reducible first | exact HB.out | apply below_alloc | apply pw_below_drewN | apply below_drew1 | refine below_set ?_ GE121.out) | exact HB.out)⟩⟩
              · rw [if_neg c11] at H
                have c11b0 : decide (x7_1 < (wrap64 ((((rd_T75 tab_1 x14_1).f0).size : Int) + 1))) = false := decide_eq_false c11
                clear c11
                have H' := Aside0.mk H
                clear H
                have p6 : 0 ≤ (x14_1 : Int) := of_decide_eq_true (by first | (with_reducible assumption) | assumption)
                have q6 : (x14_1 : Int) < 28 := of_decide_eq_true (by first | (with_reducible assumption) | assumption)
                have hix6 := index_tab_1 p6 q6
                clear p6 q6
                go_wp2_with (first | ((with_reducible refine gate_dst (N := 9) rfl ?_); refine box_event ?hg (N := 9) ?hd (cs := #[.string (⟨#[]⟩ : ByteArray), .int .i64 0, .bool false]) (t := 75) ?hr ?_; (case hd => rfl); (case hg => rfl); (case hr => first | (go_simp; done) | (go_simp; rfl)); intro gb121 hg w14 hbox hb; have n0_ := Aside0.mk (below_step (by repeat (first | (with_reducible first | exact HB.out | apply below_alloc | apply pw_below_drewN | apply below_drew1) | exact HB.out)) hb); have n1_ := Aside0.mk (hbox); have n2_ := Aside0.mk ((by rw [hg]; exact (below_size (by repeat (first | (with_reducible first | exact HB.out | apply below_alloc | apply pw_below_drewN | apply below_drew1) | exact HB.out))) : w.heap.size ≤ gb121)); have n3_ := Aside0.mk ((by rw [hg]; exact (below_size (by repeat (first | (with_reducible first | exact HB.out | apply below_alloc | apply pw_below_drewN | apply below_drew1) | exact HB.out))) : w.heap.size ≤ gb121)); clear HB; have HB := n0_; have BK121 := n1_; have GW121 := n2_; have GE121 := n3_; clear n0_ n1_ n2_ n3_; clear hb hbox hg; have hcz15_0 : w14.cell? ⟨gb121, 0, none⟩ = some (.string (⟨#[]⟩ : ByteArray)) := (blk_cell BK121.out 0).trans rfl; have hcz15_1 : w14.cell? ⟨gb121, 1, none⟩ = some (.int .i64 0) := (blk_cell BK121.out 1).trans rfl; have hcz15_2 : w14.cell? ⟨gb121, 2, none⟩ = some (.bool false) := (blk_cell BK121.out 2).trans rfl; have hfz15_0 := blk_frozen BK121.out 0; have hfz15_1 := blk_frozen BK121.out 1; have hfz15_2 := blk_frozen BK121.out 2) | ((with_reducible refine gate_callee (f := 57) rfl ?_); refine goesL_ (some 21) rfl rfl Tryd.func57 (by kernel_rfl) rfl #[.string a0, .string ((rd_T75 tab_1 x14_1).f0)] rfl (by (try simp only [List.map_toArray, List.map_cons, List.map_nil]); first | done | rfl | (simp only [List.length_drop, List.length_take]; rfl)) ?_; (with_reducible refine (strings_CutPrefix.calls a0 ((rd_T75 tab_1 x14_1).f0) t122 true _ A7.out ?side1).mono ?_); (case side1 => exact Aside0.mk (Laid.below HG.out (by repeat (first | (with_reducible first | exact HB.out | apply below_alloc | apply pw_below_drewN | apply below_drew1 | refine below_set ?_ GE121.out) | exact HB.out)))); rintro e w' ⟨rfl, ⟨nd, rfl⟩⟩; refine ⟨_, rfl, ?_⟩) | ((with_reducible refine gate_callee (f := 45) rfl ?_); refine goesL_ (some 30) rfl rfl Tryd.func45 (by kernel_rfl) rfl #[.string t122, .string (⟨#[59]⟩ : ByteArray)] rfl (by (try simp only [List.map_toArray, List.map_cons, List.map_nil]); first | done | rfl | (simp only [List.length_drop, List.length_take]; rfl)) ?_; (with_reducible refine (strings_HasPrefix.calls t122 (⟨#[59]⟩ : ByteArray) true _ A9.out ?side1).mono ?_); (case side1 => exact Aside0.mk (Laid.below HG.out (by repeat (first | (with_reducible first | exact HB.out | apply below_alloc | apply pw_below_drewN | apply below_drew1 | refine below_set ?_ GE121.out) | exact HB.out)))); rintro e w' ⟨rfl, ⟨nd, rfl⟩⟩; refine ⟨_, rfl, ?_⟩))
                go_roundg k1
                case measure => have := HK1.out; omega
                case rel => exact ⟨(x6_1), (x7_1), (wrap64 (x14_1 + 1)), (by first | rfl | (simp; done) | (simp [*]; done)), (by first | rfl | (simp; done) | (simp [*]; done)), (by first | rfl | (simp; done) | (simp [*]; done)), H', ⟨by have := HK1.out; omega⟩, ⟨by repeat (first | (with_reducible first | exact HB.out | apply below_alloc | apply pw_below_drewN | apply below_drew1 | refine below_set ?_ GE121.out) | exact HB.out)⟩⟩
            · replace c10 := Bool.eq_false_iff.mpr c10
              subst c10
              have H1 : (if (((rd_T75 tab_1 x14_1).f2) = true) then (if a1 = true then (if t122.toList = ([] : List UInt8) then (refs_named.j1 k1 a0 a1 x6_1 x7_1 (((rd_T75 tab_1 x14_1).f0).size : Int) x14_1 false ((rd_T75 tab_1 x14_1).f0) ((rd_T75 tab_1 x14_1).f1) ((rd_T75 tab_1 x14_1).f2)) else (if 0 < (t122.size : Int) then (if (bt t122 0) = 61 then (refs_named.j1 k1 a0 a1 x6_1 x7_1 (((rd_T75 tab_1 x14_1).f0).size : Int) x14_1 true ((rd_T75 tab_1 x14_1).f0) ((rd_T75 tab_1 x14_1).f1) ((rd_T75 tab_1 x14_1).f2)) else ((chars_Letter.f (bt t122 0)).bind fun t125 => (if t125 = true then (refs_named.j1 k1 a0 a1 x6_1 x7_1 (((rd_T75 tab_1 x14_1).f0).size : Int) x14_1 true ((rd_T75 tab_1 x14_1).f0) ((rd_T75 tab_1 x14_1).f1) ((rd_T75 tab_1 x14_1).f2)) else ((chars_Digit.f (bt t122 0)).bind fun t126 => (refs_named.j1 k1 a0 a1 x6_1 x7_1 (((rd_T75 tab_1 x14_1).f0).size : Int) x14_1 t126 ((rd_T75 tab_1 x14_1).f0) ((rd_T75 tab_1 x14_1).f1) ((rd_T75 tab_1 x14_1).f2)))))) else (none))) else (refs_named.j1 k1 a0 a1 x6_1 x7_1 (((rd_T75 tab_1 x14_1).f0).size : Int) x14_1 false ((rd_T75 tab_1 x14_1).f0) ((rd_T75 tab_1 x14_1).f1) ((rd_T75 tab_1 x14_1).f2))) else (refs_named.j1 k1 a0 a1 x6_1 x7_1 (((rd_T75 tab_1 x14_1).f0).size : Int) x14_1 true ((rd_T75 tab_1 x14_1).f0) ((rd_T75 tab_1 x14_1).f1) ((rd_T75 tab_1 x14_1).f2))) = some (r1, r2) := by rw [if_neg (show ¬ (false = true) by decide)] at H; exact H
              clear H
              have H := H1
              clear H1
              have HC16 := Aside0.mk H
              clear H
              have p6 : 0 ≤ (x14_1 : Int) := of_decide_eq_true (by first | (with_reducible assumption) | assumption)
              have q6 : (x14_1 : Int) < 28 := of_decide_eq_true (by first | (with_reducible assumption) | assumption)
              have hix6 := index_tab_1 p6 q6
              clear p6 q6
              go_upto_region 10 with (first | ((with_reducible refine gate_dst (N := 9) rfl ?_); refine box_event ?hg (N := 9) ?hd (cs := #[.string (⟨#[]⟩ : ByteArray), .int .i64 0, .bool false]) (t := 75) ?hr ?_; (case hd => rfl); (case hg => rfl); (case hr => first | (go_simp; done) | (go_simp; rfl)); intro gb121 hg w17 hbox hb; have n0_ := Aside0.mk (below_step (by repeat (first | (with_reducible first | exact HB.out | apply below_alloc | apply pw_below_drewN | apply below_drew1) | exact HB.out)) hb); have n1_ := Aside0.mk (hbox); have n2_ := Aside0.mk ((by rw [hg]; exact (below_size (by repeat (first | (with_reducible first | exact HB.out | apply below_alloc | apply pw_below_drewN | apply below_drew1) | exact HB.out))) : w.heap.size ≤ gb121)); have n3_ := Aside0.mk ((by rw [hg]; exact (below_size (by repeat (first | (with_reducible first | exact HB.out | apply below_alloc | apply pw_below_drewN | apply below_drew1) | exact HB.out))) : w.heap.size ≤ gb121)); clear HB; have HB := n0_; have BK121 := n1_; have GW121 := n2_; have GE121 := n3_; clear n0_ n1_ n2_ n3_; clear hb hbox hg; have hcz18_0 : w17.cell? ⟨gb121, 0, none⟩ = some (.string (⟨#[]⟩ : ByteArray)) := (blk_cell BK121.out 0).trans rfl; have hcz18_1 : w17.cell? ⟨gb121, 1, none⟩ = some (.int .i64 0) := (blk_cell BK121.out 1).trans rfl; have hcz18_2 : w17.cell? ⟨gb121, 2, none⟩ = some (.bool false) := (blk_cell BK121.out 2).trans rfl; have hfz18_0 := blk_frozen BK121.out 0; have hfz18_1 := blk_frozen BK121.out 1; have hfz18_2 := blk_frozen BK121.out 2) | ((with_reducible refine gate_callee (f := 57) rfl ?_); refine goesL_ (some 21) rfl rfl Tryd.func57 (by kernel_rfl) rfl #[.string a0, .string ((rd_T75 tab_1 x14_1).f0)] rfl (by (try simp only [List.map_toArray, List.map_cons, List.map_nil]); first | done | rfl | (simp only [List.length_drop, List.length_take]; rfl)) ?_; (with_reducible refine (strings_CutPrefix.calls a0 ((rd_T75 tab_1 x14_1).f0) t122 true _ A7.out ?side1).mono ?_); (case side1 => exact Aside0.mk (Laid.below HG.out (by repeat (first | (with_reducible first | exact HB.out | apply below_alloc | apply pw_below_drewN | apply below_drew1 | refine below_set ?_ GE121.out) | exact HB.out)))); rintro e w' ⟨rfl, ⟨nd, rfl⟩⟩; refine ⟨_, rfl, ?_⟩) | ((with_reducible refine gate_callee (f := 45) rfl ?_); refine goesL_ (some 30) rfl rfl Tryd.func45 (by kernel_rfl) rfl #[.string t122, .string (⟨#[59]⟩ : ByteArray)] rfl (by (try simp only [List.map_toArray, List.map_cons, List.map_nil]); first | done | rfl | (simp only [List.length_drop, List.length_take]; rfl)) ?_; (with_reducible refine (strings_HasPrefix.calls t122 (⟨#[59]⟩ : ByteArray) false _ A9.out ?side1).mono ?_); (case side1 => exact Aside0.mk (Laid.below HG.out (by repeat (first | (with_reducible first | exact HB.out | apply below_alloc | apply pw_below_drewN | apply below_drew1 | refine below_set ?_ GE121.out) | exact HB.out)))); rintro e w' ⟨rfl, ⟨nd, rfl⟩⟩; refine ⟨_, rfl, ?_⟩))
              (try simp only [Act.put, List.setIfInBounds_toArray, List.set_cons_zero, List.set_cons_succ])
              go_cut [57] (fun v57 wc => ∃ (kq : Nat) (x57_15 : Bool), v57 = .bool x57_15 ∧ Aside0 (refs_named.j1 kq a0 a1 x6_1 x7_1 (((rd_T75 tab_1 x14_1).f0).size : Int) x14_1 x57_15 ((rd_T75 tab_1 x14_1).f0) ((rd_T75 tab_1 x14_1).f1) ((rd_T75 tab_1 x14_1).f2) = some (r1, r2)) ∧ Aside0 (kq ≤ k1) ∧ Aside0 (wc.heap[gb121]? = some (.cells #[.string ((rd_T75 tab_1 x14_1).f0), .int .i64 ((rd_T75 tab_1 x14_1).f1), .bool ((rd_T75 tab_1 x14_1).f2)] 75 (0, 0))) ∧ Aside0 (Below w.heap.size w wc))
              case first =>
                have H := HC16.out
                clear HC16
                by_cases c19 : (((rd_T75 tab_1 x14_1).f2) = true)
                · rw [if_pos c19] at H
                  have c19b0 : ((rd_T75 tab_1 x14_1).f2) = true := c19
                  clear c19
                  (first | rw [c19b0] | (simp only [i64_w, i32_w]; rw [c19b0]) | skip)
                  by_cases c20 : a1 = true
                  · subst c20
                    have H1 : (if t122.toList = ([] : List UInt8) then (refs_named.j1 k1 a0 true x6_1 x7_1 (((rd_T75 tab_1 x14_1).f0).size : Int) x14_1 false ((rd_T75 tab_1 x14_1).f0) ((rd_T75 tab_1 x14_1).f1) ((rd_T75 tab_1 x14_1).f2)) else (if 0 < (t122.size : Int) then (if (bt t122 0) = 61 then (refs_named.j1 k1 a0 true x6_1 x7_1 (((rd_T75 tab_1 x14_1).f0).size : Int) x14_1 true ((rd_T75 tab_1 x14_1).f0) ((rd_T75 tab_1 x14_1).f1) ((rd_T75 tab_1 x14_1).f2)) else ((chars_Letter.f (bt t122 0)).bind fun t125 => (if t125 = true then (refs_named.j1 k1 a0 true x6_1 x7_1 (((rd_T75 tab_1 x14_1).f0).size : Int) x14_1 true ((rd_T75 tab_1 x14_1).f0) ((rd_T75 tab_1 x14_1).f1) ((rd_T75 tab_1 x14_1).f2)) else ((chars_Digit.f (bt t122 0)).bind fun t126 => (refs_named.j1 k1 a0 true x6_1 x7_1 (((rd_T75 tab_1 x14_1).f0).size : Int) x14_1 t126 ((rd_T75 tab_1 x14_1).f0) ((rd_T75 tab_1 x14_1).f1) ((rd_T75 tab_1 x14_1).f2)))))) else (none))) = some (r1, r2) := by rw [if_pos rfl] at H; exact H
                    clear H
                    have H := H1
                    clear H1
                    by_cases c21 : t122.toList = ([] : List UInt8)
                    · rw [if_pos c21] at H
                      have c21b0 : (t122.toList == ([] : List UInt8)) = true := beq_iff_eq.mpr c21
                      have c21b1 : (t122.toList != ([] : List UInt8)) = false := bne_eq_false_iff_eq.mpr c21
                      clear c21
                      have H' := Aside0.mk H
                      clear H
                      have hcz22_0 : w17.cell? ⟨gb121, 0, none⟩ = some (.string (⟨#[]⟩ : ByteArray)) := (blk_cell BK121.out 0).trans rfl
                      have hcz22_1 : w17.cell? ⟨gb121, 1, none⟩ = some (.int .i64 0) := (blk_cell BK121.out 1).trans rfl
                      have hcz22_2 : w17.cell? ⟨gb121, 2, none⟩ = some (.bool false) := (blk_cell BK121.out 2).trans rfl
                      have hfz22_0 := blk_frozen BK121.out 0
                      have hfz22_1 := blk_frozen BK121.out 1
                      have hfz22_2 := blk_frozen BK121.out 2
                      go_wp2
                      go_meet
                      case rel => exact ⟨_, (false), (by first | rfl | (simp; done) | (simp [*]; done)), H', ⟨by have := HK1.out; first | omega | exact Nat.le_refl _⟩, ⟨by (with_reducible repeat (first | refine blk_drewN ?_ _ | refine blk_drew ?_ | refine blk_alloc ?_ _)); refine blk_put (cs := #[.string ((rd_T75 tab_1 x14_1).f0), .int .i64 ((rd_T75 tab_1 x14_1).f1), .bool false]) ?_ 2 _ (by first | rfl | (simp only [*]; done) | (simp only [*]; rfl)); (with_reducible repeat (first | refine blk_drewN ?_ _ | refine blk_drew ?_ | refine blk_alloc ?_ _)); refine blk_put (cs := #[.string ((rd_T75 tab_1 x14_1).f0), .int .i64 0, .bool false]) ?_ 1 _ (by first | rfl | (simp only [*]; done) | (simp only [*]; rfl)); (with_reducible repeat (first | refine blk_drewN ?_ _ | refine blk_drew ?_ | refine blk_alloc ?_ _)); refine blk_put (cs := #[.string (⟨#[]⟩ : ByteArray), .int .i64 0, .bool false]) ?_ 0 _ (by first | rfl | (simp only [*]; done) | (simp only [*]; rfl)); (with_reducible repeat (first | refine blk_drewN ?_ _ | refine blk_drew ?_ | refine blk_alloc ?_ _)); exact BK121.out⟩, ⟨by repeat (first | (with_reducible first | exact HB.out | apply below_alloc | apply pw_below_drewN | apply below_drew1 | refine below_set ?_ GE121.out) | exact HB.out)⟩⟩
                    · rw [if_neg c21] at H
                      have c21b0 : (t122.toList == ([] : List UInt8)) = false := beq_eq_false_iff_ne.mpr c21
                      have c21b1 : (t122.toList != ([] : List UInt8)) = true := bne_iff_ne.mpr c21
                      by_cases c23 : 0 < (t122.size : Int)
                      · rw [if_pos c23] at H
                        have c23b0 : decide (0 < (t122.size : Int)) = true := decide_eq_true c23
                        have c23b1 : decide (0 < t122.size) = true := decide_eq_true (by omega)
                        clear c23
                        by_cases c25 : (bt t122 0) = 61
                        · rw [if_pos c25] at H
                          have c25b0 : ((bt t122 0) == 61) = true := beq_iff_eq.mpr c25
                          have c25b1 : ((bt t122 0) != 61) = false := bne_eq_false_iff_eq.mpr c25
                          clear c25
                          have H' := Aside0.mk H
                          clear H
                          have hcz26_0 : w17.cell? ⟨gb121, 0, none⟩ = some (.string (⟨#[]⟩ : ByteArray)) := (blk_cell BK121.out 0).trans rfl
                          have hcz26_1 : w17.cell? ⟨gb121, 1, none⟩ = some (.int .i64 0) := (blk_cell BK121.out 1).trans rfl
                          have hcz26_2 : w17.cell? ⟨gb121, 2, none⟩ = some (.bool false) := (blk_cell BK121.out 2).trans rfl
                          have hfz26_0 := blk_frozen BK121.out 0
                          have hfz26_1 := blk_frozen BK121.out 1
                          have hfz26_2 := blk_frozen BK121.out 2
                          have p24 : 0 ≤ (0 : Int) := (by omega)
                          have q24 : 0 < t122.size := (by have : (0 : Int) < (t122.size : Int) := of_decide_eq_true (by first | (with_reducible assumption) | assumption); omega)
                          have hx24 : ∀ h : 0 < t122.size, ((t122[0]'h).toNat : Int) = bt t122 0 := bt_at t122 0
                          clear p24
                          have qi24 : (0 < (t122.size : Int)) = True := eq_true (of_decide_eq_true (by first | (with_reducible assumption) | assumption))
                          replace q24 := eq_true q24
                          go_wp2
                          go_meet
                          case rel => exact ⟨_, (true), (by first | rfl | (simp; done) | (simp [*]; done)), H', ⟨by have := HK1.out; first | omega | exact Nat.le_refl _⟩, ⟨by (with_reducible repeat (first | refine blk_drewN ?_ _ | refine blk_drew ?_ | refine blk_alloc ?_ _)); refine blk_put (cs := #[.string ((rd_T75 tab_1 x14_1).f0), .int .i64 ((rd_T75 tab_1 x14_1).f1), .bool false]) ?_ 2 _ (by first | rfl | (simp only [*]; done) | (simp only [*]; rfl)); (with_reducible repeat (first | refine blk_drewN ?_ _ | refine blk_drew ?_ | refine blk_alloc ?_ _)); refine blk_put (cs := #[.string ((rd_T75 tab_1 x14_1).f0), .int .i64 0, .bool false]) ?_ 1 _ (by first | rfl | (simp only [*]; done) | (simp only [*]; rfl)); (with_reducible repeat (first | refine blk_drewN ?_ _ | refine blk_drew ?_ | refine blk_alloc ?_ _)); refine blk_put (cs := #[.string (⟨#[]⟩ : ByteArray), .int .i64 0, .bool false]) ?_ 0 _ (by first | rfl | (simp only [*]; done) | (simp only [*]; rfl)); (with_reducible repeat (first | refine blk_drewN ?_ _ | refine blk_drew ?_ | refine blk_alloc ?_ _)); exact BK121.out⟩, ⟨by repeat (first | (with_reducible first | exact HB.out | apply below_alloc | apply pw_below_drewN | apply below_drew1 | refine below_set ?_ GE121.out) | exact HB.out)⟩⟩
                        · rw [if_neg c25] at H
                          have c25b0 : ((bt t122 0) == 61) = false := beq_eq_false_iff_ne.mpr c25
                          have c25b1 : ((bt t122 0) != 61) = true := bne_iff_ne.mpr c25
                          replace H := Option.bind_eq_some_iff.mp H
                          obtain ⟨t125, A280, H⟩ := H
                          replace H : (if t125 = true then (refs_named.j1 k1 a0 true x6_1 x7_1 (((rd_T75 tab_1 x14_1).f0).size : Int) x14_1 true ((rd_T75 tab_1 x14_1).f0) ((rd_T75 tab_1 x14_1).f1) ((rd_T75 tab_1 x14_1).f2)) else ((chars_Digit.f (bt t122 0)).bind fun t126 => (refs_named.j1 k1 a0 true x6_1 x7_1 (((rd_T75 tab_1 x14_1).f0).size : Int) x14_1 t126 ((rd_T75 tab_1 x14_1).f0) ((rd_T75 tab_1 x14_1).f1) ((rd_T75 tab_1 x14_1).f2)))) = some (r1, r2) := H
                          have A28 := Aside0.mk A280
                          clear A280
                          by_cases c29 : t125 = true
                          · subst c29
                            have H1 : (refs_named.j1 k1 a0 true x6_1 x7_1 (((rd_T75 tab_1 x14_1).f0).size : Int) x14_1 true ((rd_T75 tab_1 x14_1).f0) ((rd_T75 tab_1 x14_1).f1) ((rd_T75 tab_1 x14_1).f2)) = some (r1, r2) := by rw [if_pos rfl] at H; exact H
                            clear H
                            have H := H1
                            clear H1
                            have H' := Aside0.mk H
                            clear H
                            have hcz30_0 : w17.cell? ⟨gb121, 0, none⟩ = some (.string (⟨#[]⟩ : ByteArray)) := (blk_cell BK121.out 0).trans rfl
                            have hcz30_1 : w17.cell? ⟨gb121, 1, none⟩ = some (.int .i64 0) := (blk_cell BK121.out 1).trans rfl
                            have hcz30_2 : w17.cell? ⟨gb121, 2, none⟩ = some (.bool false) := (blk_cell BK121.out 2).trans rfl
                            have hfz30_0 := blk_frozen BK121.out 0
                            have hfz30_1 := blk_frozen BK121.out 1
                            have hfz30_2 := blk_frozen BK121.out 2
                            have p24 : 0 ≤ (0 : Int) := (by omega)
                            have q24 : 0 < t122.size := (by have : (0 : Int) < (t122.size : Int) := of_decide_eq_true (by first | (with_reducible assumption) | assumption); omega)
                            have hx24 : ∀ h : 0 < t122.size, ((t122[0]'h).toNat : Int) = bt t122 0 := bt_at t122 0
                            clear p24
                            have qi24 : (0 < (t122.size : Int)) = True := eq_true (of_decide_eq_true (by first | (with_reducible assumption) | assumption))
                            replace q24 := eq_true q24
                            have p27 : 0 ≤ (0 : Int) := (by omega)
                            have q27 : 0 < t122.size := (by have : (0 : Int) < (t122.size : Int) := of_decide_eq_true (by first | (with_reducible assumption) | assumption); omega)
                            have hx27 : ∀ h : 0 < t122.size, ((t122[0]'h).toNat : Int) = bt t122 0 := bt_at t122 0
                            clear p27
                            have qi27 : (0 < (t122.size : Int)) = True := eq_true (of_decide_eq_true (by first | (with_reducible assumption) | assumption))
                            replace q27 := eq_true q27
                            go_wp2_with (first | (go_at_call 58; (with_reducible refine (chars_Letter.calls (bt t122 0) true _ A28.out ?side1).mono ?_); (case side1 => exact Aside0.mk (Laid.below HG.out (by repeat (first | (with_reducible first | exact HB.out | apply below_alloc | apply pw_below_drewN | apply below_drew1 | refine below_set ?_ GE121.out) | exact HB.out)))); rintro e w' ⟨rfl, ⟨nd, rfl⟩⟩))
                            go_meet
                            case rel => exact ⟨_, (true), (by first | rfl | (simp; done) | (simp [*]; done)), H', ⟨by have := HK1.out; first | omega | exact Nat.le_refl _⟩, ⟨by (with_reducible repeat (first | refine blk_drewN ?_ _ | refine blk_drew ?_ | refine blk_alloc ?_ _)); refine blk_put (cs := #[.string ((rd_T75 tab_1 x14_1).f0), .int .i64 ((rd_T75 tab_1 x14_1).f1), .bool false]) ?_ 2 _ (by first | rfl | (simp only [*]; done) | (simp only [*]; rfl)); (with_reducible repeat (first | refine blk_drewN ?_ _ | refine blk_drew ?_ | refine blk_alloc ?_ _)); refine blk_put (cs := #[.string ((rd_T75 tab_1 x14_1).f0), .int .i64 0, .bool false]) ?_ 1 _ (by first | rfl | (simp only [*]; done) | (simp only [*]; rfl)); (with_reducible repeat (first | refine blk_drewN ?_ _ | refine blk_drew ?_ | refine blk_alloc ?_ _)); refine blk_put (cs := #[.string (⟨#[]⟩ : ByteArray), .int .i64 0, .bool false]) ?_ 0 _ (by first | rfl | (simp only [*]; done) | (simp only [*]; rfl)); (with_reducible repeat (first | refine blk_drewN ?_ _ | refine blk_drew ?_ | refine blk_alloc ?_ _)); exact BK121.out⟩, ⟨by repeat (first | (with_reducible first | exact HB.out | apply below_alloc | apply pw_below_drewN | apply below_drew1 | refine below_set ?_ GE121.out) | exact HB.out)⟩⟩
                          · replace c29 := Bool.eq_false_iff.mpr c29
                            subst c29
                            have H1 : ((chars_Digit.f (bt t122 0)).bind fun t126 => (refs_named.j1 k1 a0 true x6_1 x7_1 (((rd_T75 tab_1 x14_1).f0).size : Int) x14_1 t126 ((rd_T75 tab_1 x14_1).f0) ((rd_T75 tab_1 x14_1).f1) ((rd_T75 tab_1 x14_1).f2))) = some (r1, r2) := by rw [if_neg (show ¬ (false = true) by decide)] at H; exact H
                            clear H
                            have H := H1
                            clear H1
                            replace H := Option.bind_eq_some_iff.mp H
                            obtain ⟨t126, A320, H⟩ := H
                            replace H : (refs_named.j1 k1 a0 true x6_1 x7_1 (((rd_T75 tab_1 x14_1).f0).size : Int) x14_1 t126 ((rd_T75 tab_1 x14_1).f0) ((rd_T75 tab_1 x14_1).f1) ((rd_T75 tab_1 x14_1).f2)) = some (r1, r2) := H
                            have A32 := Aside0.mk A320
                            clear A320
                            have H' := Aside0.mk H
                            clear H
                            have hcz33_0 : w17.cell? ⟨gb121, 0, none⟩ = some (.string (⟨#[]⟩ : ByteArray)) := (blk_cell BK121.out 0).trans rfl
                            have hcz33_1 : w17.cell? ⟨gb121, 1, none⟩ = some (.int .i64 0) := (blk_cell BK121.out 1).trans rfl
                            have hcz33_2 : w17.cell? ⟨gb121, 2, none⟩ = some (.bool false) := (blk_cell BK121.out 2).trans rfl
                            have hfz33_0 := blk_frozen BK121.out 0
                            have hfz33_1 := blk_frozen BK121.out 1
                            have hfz33_2 := blk_frozen BK121.out 2
                            have p24 : 0 ≤ (0 : Int) := (by omega)
                            have q24 : 0 < t122.size := (by have : (0 : Int) < (t122.size : Int) := of_decide_eq_true (by first | (with_reducible assumption) | assumption); omega)
                            have hx24 : ∀ h : 0 < t122.size, ((t122[0]'h).toNat : Int) = bt t122 0 := bt_at t122 0
                            clear p24
                            have qi24 : (0 < (t122.size : Int)) = True := eq_true (of_decide_eq_true (by first | (with_reducible assumption) | assumption))
                            replace q24 := eq_true q24
                            have p27 : 0 ≤ (0 : Int) := (by omega)
                            have q27 : 0 < t122.size := (by have : (0 : Int) < (t122.size : Int) := of_decide_eq_true (by first | (with_reducible assumption) | assumption); omega)
                            have hx27 : ∀ h : 0 < t122.size, ((t122[0]'h).toNat : Int) = bt t122 0 := bt_at t122 0
                            clear p27
                            have qi27 : (0 < (t122.size : Int)) = True := eq_true (of_decide_eq_true (by first | (with_reducible assumption) | assumption))
                            replace q27 := eq_true q27
                            go_wp2_with (first | (go_at_call 58; (with_reducible refine (chars_Letter.calls (bt t122 0) false _ A28.out ?side1).mono ?_); (case side1 => exact Aside0.mk (Laid.below HG.out (by repeat (first | (with_reducible first | exact HB.out | apply below_alloc | apply pw_below_drewN | apply below_drew1 | refine below_set ?_ GE121.out) | exact HB.out)))); rintro e w' ⟨rfl, ⟨nd, rfl⟩⟩; have p31 : 0 ≤ (0 : Int) := (by omega); have q31 : 0 < t122.size := (by have : (0 : Int) < (t122.size : Int) := of_decide_eq_true (by first | (with_reducible assumption) | assumption); omega); have hx31 : ∀ h : 0 < t122.size, ((t122[0]'h).toNat : Int) = bt t122 0 := bt_at t122 0; clear p31; have qi31 : (0 < (t122.size : Int)) = True := eq_true (of_decide_eq_true (by first | (with_reducible assumption) | assumption)); replace q31 := eq_true q31) | (go_at_call 59; (with_reducible refine (chars_Digit.calls (bt t122 0) t126 _ A32.out ?side1).mono ?_); (case side1 => exact Aside0.mk (Laid.below HG.out (by repeat (first | (with_reducible first | exact HB.out | apply below_alloc | apply pw_below_drewN | apply below_drew1 | refine below_set ?_ GE121.out) | exact HB.out)))); rintro e w' ⟨rfl, ⟨nd, rfl⟩⟩))
                            go_meet
                            case rel => exact ⟨_, (t126), (by first | rfl | (simp; done) | (simp [*]; done)), H', ⟨by have := HK1.out; first | omega | exact Nat.le_refl _⟩, ⟨by (with_reducible repeat (first | refine blk_drewN ?_ _ | refine blk_drew ?_ | refine blk_alloc ?_ _)); refine blk_put (cs := #[.string ((rd_T75 tab_1 x14_1).f0), .int .i64 ((rd_T75 tab_1 x14_1).f1), .bool false]) ?_ 2 _ (by first | rfl | (simp only [*]; done) | (simp only [*]; rfl)); (with_reducible repeat (first | refine blk_drewN ?_ _ | refine blk_drew ?_ | refine blk_alloc ?_ _)); refine blk_put (cs := #[.string ((rd_T75 tab_1 x14_1).f0), .int .i64 0, .bool false]) ?_ 1 _ (by first | rfl | (simp only [*]; done) | (simp only [*]; rfl)); (with_reducible repeat (first | refine blk_drewN ?_ _ | refine blk_drew ?_ | refine blk_alloc ?_ _)); refine blk_put (cs := #[.string (⟨#[]⟩ : ByteArray), .int .i64 0, .bool false]) ?_ 0 _ (by first | rfl | (simp only [*]; done) | (simp only [*]; rfl)); (with_reducible repeat (first | refine blk_drewN ?_ _ | refine blk_drew ?_ | refine blk_alloc ?_ _)); exact BK121.out⟩, ⟨by repeat (first | (with_reducible first | exact HB.out | apply below_alloc | apply pw_below_drewN | apply below_drew1 | refine below_set ?_ GE121.out) | exact HB.out)⟩⟩
                      · rw [if_neg c23] at H
                        exact absurd H (by simp)
                  · replace c20 := Bool.eq_false_iff.mpr c20
                    subst c20
                    have H1 : (refs_named.j1 k1 a0 false x6_1 x7_1 (((rd_T75 tab_1 x14_1).f0).size : Int) x14_1 false ((rd_T75 tab_1 x14_1).f0) ((rd_T75 tab_1 x14_1).f1) ((rd_T75 tab_1 x14_1).f2)) = some (r1, r2) := by rw [if_neg (show ¬ (false = true) by decide)] at H; exact H
                    clear H
                    have H := H1
                    clear H1
                    have H' := Aside0.mk H
                    clear H
                    have hcz34_0 : w17.cell? ⟨gb121, 0, none⟩ = some (.string (⟨#[]⟩ : ByteArray)) := (blk_cell BK121.out 0).trans rfl
                    have hcz34_1 : w17.cell? ⟨gb121, 1, none⟩ = some (.int .i64 0) := (blk_cell BK121.out 1).trans rfl
                    have hcz34_2 : w17.cell? ⟨gb121, 2, none⟩ = some (.bool false) := (blk_cell BK121.out 2).trans rfl
                    have hfz34_0 := blk_frozen BK121.out 0
                    have hfz34_1 := blk_frozen BK121.out 1
                    have hfz34_2 := blk_frozen BK121.out 2
                    go_wp2
                    go_meet
                    case rel => exact ⟨_, (false), (by first | rfl | (simp; done) | (simp [*]; done)), H', ⟨by have := HK1.out; first | omega | exact Nat.le_refl _⟩, ⟨by (with_reducible repeat (first | refine blk_drewN ?_ _ | refine blk_drew ?_ | refine blk_alloc ?_ _)); refine blk_put (cs := #[.string ((rd_T75 tab_1 x14_1).f0), .int .i64 ((rd_T75 tab_1 x14_1).f1), .bool false]) ?_ 2 _ (by first | rfl | (simp only [*]; done) | (simp only [*]; rfl)); (with_reducible repeat (first | refine blk_drewN ?_ _ | refine blk_drew ?_ | refine blk_alloc ?_ _)); refine blk_put (cs := #[.string ((rd_T75 tab_1 x14_1).f0), .int .i64 0, .bool false]) ?_ 1 _ (by first | rfl | (simp only [*]; done) | (simp only [*]; rfl)); (with_reducible repeat (first | refine blk_drewN ?_ _ | refine blk_drew ?_ | refine blk_alloc ?_ _)); refine blk_put (cs := #[.string (⟨#[]⟩ : ByteArray), .int .i64 0, .bool false]) ?_ 0 _ (by first | rfl | (simp only [*]; done) | (simp only [*]; rfl)); (with_reducible repeat (first | refine blk_drewN ?_ _ | refine blk_drew ?_ | refine blk_alloc ?_ _)); exact BK121.out⟩, ⟨by repeat (first | (with_reducible first | exact HB.out | apply below_alloc | apply pw_below_drewN | apply below_drew1 | refine below_set ?_ GE121.out) | exact HB.out)⟩⟩
                · rw [if_neg c19] at H
                  have c19b0 : ((rd_T75 tab_1 x14_1).f2) = false := by simpa using c19
                  clear c19
                  (first | rw [c19b0] | (simp only [i64_w, i32_w]; rw [c19b0]) | skip)
                  have H' := Aside0.mk H
                  clear H
                  have hcz35_0 : w17.cell? ⟨gb121, 0, none⟩ = some (.string (⟨#[]⟩ : ByteArray)) := (blk_cell BK121.out 0).trans rfl
                  have hcz35_1 : w17.cell? ⟨gb121, 1, none⟩ = some (.int .i64 0) := (blk_cell BK121.out 1).trans rfl
                  have hcz35_2 : w17.cell? ⟨gb121, 2, none⟩ = some (.bool false) := (blk_cell BK121.out 2).trans rfl
                  have hfz35_0 := blk_frozen BK121.out 0
                  have hfz35_1 := blk_frozen BK121.out 1
                  have hfz35_2 := blk_frozen BK121.out 2
                  go_wp2
                  go_meet
                  case rel => exact ⟨_, (true), (by first | rfl | (simp; done) | (simp [*]; done)), H', ⟨by have := HK1.out; first | omega | exact Nat.le_refl _⟩, ⟨by (with_reducible repeat (first | refine blk_drewN ?_ _ | refine blk_drew ?_ | refine blk_alloc ?_ _)); refine blk_put (cs := #[.string ((rd_T75 tab_1 x14_1).f0), .int .i64 ((rd_T75 tab_1 x14_1).f1), .bool false]) ?_ 2 _ (by first | rfl | (simp only [*]; done) | (simp only [*]; rfl)); (with_reducible repeat (first | refine blk_drewN ?_ _ | refine blk_drew ?_ | refine blk_alloc ?_ _)); refine blk_put (cs := #[.string ((rd_T75 tab_1 x14_1).f0), .int .i64 0, .bool false]) ?_ 1 _ (by first | rfl | (simp only [*]; done) | (simp only [*]; rfl)); (with_reducible repeat (first | refine blk_drewN ?_ _ | refine blk_drew ?_ | refine blk_alloc ?_ _)); refine blk_put (cs := #[.string (⟨#[]⟩ : ByteArray), .int .i64 0, .bool false]) ?_ 0 _ (by first | rfl | (simp only [*]; done) | (simp only [*]; rfl)); (with_reducible repeat (first | refine blk_drewN ?_ _ | refine blk_drew ?_ | refine blk_alloc ?_ _)); exact BK121.out⟩, ⟨by repeat (first | (with_reducible first | exact HB.out | apply below_alloc | apply pw_below_drewN | apply below_drew1 | refine below_set ?_ GE121.out) | exact HB.out)⟩⟩
              case rest =>
                clear HC16
                try clear c1
                try clear c2
                try clear p2
                try clear q2
                try clear hx2
                try clear qi2
                try clear p3
                try clear q3
                try clear hx3
                try clear qi3
                try clear c4
                try clear c4b0
                try clear c5
                try clear c5b0
                try clear p6
                try clear q6
                try clear c8
                try clear c10
                try clear c11
                try clear c11b0
                try clear c19
                try clear c19b0
                try clear c20
                try clear c21
                try clear c21b0
                try clear c21b1
                try clear c23
                try clear c23b0
                try clear c23b1
                try clear p24
                try clear q24
                try clear hx24
                try clear qi24
                try clear c25
                try clear c25b0
                try clear c25b1
                try clear p27
                try clear q27
                try clear hx27
                try clear qi27
                try clear c29
                try clear p31
                try clear q31
                try clear hx31
                try clear qi31
                try clear hcz13_0
                try clear hcz13_1
                try clear hcz13_2
                try clear hcz15_0
                try clear hcz15_1
                try clear hcz15_2
                try clear hcz18_0
                try clear hcz18_1
                try clear hcz18_2
                try clear hcz22_0
                try clear hcz22_1
                try clear hcz22_2
                try clear hcz26_0
                try clear hcz26_1
                try clear hcz26_2
                try clear hcz30_0
                try clear hcz30_1
                try clear hcz30_2
                try clear hcz33_0
                try clear hcz33_1
                try clear hcz33_2
                try clear hcz34_0
                try clear hcz34_1
                try clear hcz34_2
                try clear hcz35_0
                try clear hcz35_1
                try clear hcz35_2
                try clear hfz13_0
                try clear hfz13_1
                try clear hfz13_2
                try clear hfz15_0
                try clear hfz15_1
                try clear hfz15_2
                try clear hfz18_0
                try clear hfz18_1
                try clear hfz18_2
                try clear hfz22_0
                try clear hfz22_1
                try clear hfz22_2
                try clear hfz26_0
                try clear hfz26_1
                try clear hfz26_2
                try clear hfz30_0
                try clear hfz30_1
                try clear hfz30_2
                try clear hfz33_0
                try clear hfz33_1
                try clear hfz33_2
                try clear hfz34_0
                try clear hfz34_1
                try clear hfz34_2
                try clear hfz35_0
                try clear hfz35_1
                try clear hfz35_2
                try clear p2
                try clear p24
                try clear p27
                try clear p31
                try clear p6
                try clear q24
                try clear q27
                try clear q31
                try clear q6
                obtain ⟨kq, x57_15, rfl, HA, HJ15, BK121, HB⟩ := hcut
                cases kq with
                | zero => exact absurd HA.out (by simp [refs_named.j1])
                | succ kj15 =>
                  have H := HA.out
                  clear HA
                  simp only [refs_named.j1] at H
                  by_cases c36 : x57_15 = true
                  · subst c36
                    have H1 : (refs_named.l0 kj15 a0 a1 x6_1 x7_1 (wrap64 (x14_1 + 1))) = some (r1, r2) := by rw [if_pos rfl] at H; exact H
                    clear H
                    have H := H1
                    clear H1
                    have H' := Aside0.mk H
                    clear H
                    go_wp2
                    go_roundg kj15
                    case measure => have := HK1.out; have := HJ15.out; omega
                    case rel => exact ⟨(x6_1), (x7_1), (wrap64 (x14_1 + 1)), (by first | rfl | (simp; done) | (simp [*]; done)), (by first | rfl | (simp; done) | (simp [*]; done)), (by first | rfl | (simp; done) | (simp [*]; done)), H', ⟨by have := HK1.out; have := HJ15.out; omega⟩, ⟨by repeat (first | (with_reducible first | exact HB.out | apply below_alloc | apply pw_below_drewN | apply below_drew1 | refine below_set ?_ GE121.out) | exact HB.out)⟩⟩
                  · replace c36 := Bool.eq_false_iff.mpr c36
                    subst c36
                    have H1 : (if (((rd_T75 tab_1 x14_1).f0).size : Int) > x7_1 then (refs_named.l0 kj15 a0 a1 ((rd_T75 tab_1 x14_1).f1) (((rd_T75 tab_1 x14_1).f0).size : Int) (wrap64 (x14_1 + 1))) else (refs_named.l0 kj15 a0 a1 x6_1 x7_1 (wrap64 (x14_1 + 1)))) = some (r1, r2) := by rw [if_neg (show ¬ (false = true) by decide)] at H; exact H
                    clear H
                    have H := H1
                    clear H1
                    by_cases c37 : (((rd_T75 tab_1 x14_1).f0).size : Int) > x7_1
                    · rw [if_pos c37] at H
                      have c37b0 : decide (x7_1 < (((rd_T75 tab_1 x14_1).f0).size : Int)) = true := decide_eq_true c37
                      clear c37
                      have H' := Aside0.mk H
                      clear H
                      have hcz38_0 : wc.cell? ⟨gb121, 0, none⟩ = some (.string ((rd_T75 tab_1 x14_1).f0)) := (blk_cell BK121.out 0).trans rfl
                      have hcz38_1 : wc.cell? ⟨gb121, 1, none⟩ = some (.int .i64 ((rd_T75 tab_1 x14_1).f1)) := (blk_cell BK121.out 1).trans rfl
                      have hcz38_2 : wc.cell? ⟨gb121, 2, none⟩ = some (.bool ((rd_T75 tab_1 x14_1).f2)) := (blk_cell BK121.out 2).trans rfl
                      have hfz38_0 := blk_frozen BK121.out 0
                      have hfz38_1 := blk_frozen BK121.out 1
                      have hfz38_2 := blk_frozen BK121.out 2
                      go_wp2
                      go_roundg kj15
                      case measure => have := HK1.out; have := HJ15.out; omega
                      case rel => exact ⟨(((rd_T75 tab_1 x14_1).f1)), ((((rd_T75 tab_1 x14_1).f0).size : Int)), (wrap64 (x14_1 + 1)), (by first | rfl | (simp; done) | (simp [*]; done)), (by first | rfl | (simp; done) | (simp [*]; done)), (by first | rfl | (simp; done) | (simp [*]; done)), H', ⟨by have := HK1.out; have := HJ15.out; omega⟩, ⟨by repeat (first | (with_reducible first | exact HB.out | apply below_alloc | apply pw_below_drewN | apply below_drew1 | refine below_set ?_ GE121.out) | exact HB.out)⟩⟩
                    · rw [if_neg c37] at H
                      have c37b0 : decide (x7_1 < (((rd_T75 tab_1 x14_1).f0).size : Int)) = false := decide_eq_false c37
                      clear c37
                      have H' := Aside0.mk H
                      clear H
                      go_wp2
                      go_roundg kj15
                      case measure => have := HK1.out; have := HJ15.out; omega
                      case rel => exact ⟨(x6_1), (x7_1), (wrap64 (x14_1 + 1)), (by first | rfl | (simp; done) | (simp [*]; done)), (by first | rfl | (simp; done) | (simp [*]; done)), (by first | rfl | (simp; done) | (simp [*]; done)), H', ⟨by have := HK1.out; have := HJ15.out; omega⟩, ⟨by repeat (first | (with_reducible first | exact HB.out | apply below_alloc | apply pw_below_drewN | apply below_drew1 | refine below_set ?_ GE121.out) | exact HB.out)⟩⟩
          · replace c8 := Bool.eq_false_iff.mpr c8
            subst c8
            have H1 : (refs_named.l0 k1 a0 a1 x6_1 x7_1 (wrap64 (x14_1 + 1))) = some (r1, r2) := by rw [if_neg (show ¬ (false = true) by decide)] at H; exact H
            clear H
            have H := H1
            clear H1
            have H' := Aside0.mk H
            clear H
            have p6 : 0 ≤ (x14_1 : Int) := of_decide_eq_true (by first | (with_reducible assumption) | assumption)
            have q6 : (x14_1 : Int) < 28 := of_decide_eq_true (by first | (with_reducible assumption) | assumption)
            have hix6 := index_tab_1 p6 q6
            clear p6 q6
            go_wp2_with (first | ((with_reducible refine gate_dst (N := 9) rfl ?_); refine box_event ?hg (N := 9) ?hd (cs := #[.string (⟨#[]⟩ : ByteArray), .int .i64 0, .bool false]) (t := 75) ?hr ?_; (case hd => rfl); (case hg => rfl); (case hr => first | (go_simp; done) | (go_simp; rfl)); intro gb121 hg w39 hbox hb; have n0_ := Aside0.mk (below_step (by repeat (first | (with_reducible first | exact HB.out | apply below_alloc | apply pw_below_drewN | apply below_drew1) | exact HB.out)) hb); have n1_ := Aside0.mk (hbox); have n2_ := Aside0.mk ((by rw [hg]; exact (below_size (by repeat (first | (with_reducible first | exact HB.out | apply below_alloc | apply pw_below_drewN | apply below_drew1) | exact HB.out))) : w.heap.size ≤ gb121)); have n3_ := Aside0.mk ((by rw [hg]; exact (below_size (by repeat (first | (with_reducible first | exact HB.out | apply below_alloc | apply pw_below_drewN | apply below_drew1) | exact HB.out))) : w.heap.size ≤ gb121)); clear HB; have HB := n0_; have BK121 := n1_; have GW121 := n2_; have GE121 := n3_; clear n0_ n1_ n2_ n3_; clear hb hbox hg; have hcz40_0 : w39.cell? ⟨gb121, 0, none⟩ = some (.string (⟨#[]⟩ : ByteArray)) := (blk_cell BK121.out 0).trans rfl; have hcz40_1 : w39.cell? ⟨gb121, 1, none⟩ = some (.int .i64 0) := (blk_cell BK121.out 1).trans rfl; have hcz40_2 : w39.cell? ⟨gb121, 2, none⟩ = some (.bool false) := (blk_cell BK121.out 2).trans rfl; have hfz40_0 := blk_frozen BK121.out 0; have hfz40_1 := blk_frozen BK121.out 1; have hfz40_2 := blk_frozen BK121.out 2) | ((with_reducible refine gate_callee (f := 57) rfl ?_); refine goesL_ (some 21) rfl rfl Tryd.func57 (by kernel_rfl) rfl #[.string a0, .string ((rd_T75 tab_1 x14_1).f0)] rfl (by (try simp only [List.map_toArray, List.map_cons, List.map_nil]); first | done | rfl | (simp only [List.length_drop, List.length_take]; rfl)) ?_; (with_reducible refine (strings_CutPrefix.calls a0 ((rd_T75 tab_1 x14_1).f0) t122 false _ A7.out ?side1).mono ?_); (case side1 => exact Aside0.mk (Laid.below HG.out (by repeat (first | (with_reducible first | exact HB.out | apply below_alloc | apply pw_below_drewN | apply below_drew1 | refine below_set ?_ GE121.out) | exact HB.out)))); rintro e w' ⟨rfl, ⟨nd, rfl⟩⟩; refine ⟨_, rfl, ?_⟩))
            go_roundg k1
            case measure => have := HK1.out; omega
            case rel => exact ⟨(x6_1), (x7_1), (wrap64 (x14_1 + 1)), (by first | rfl | (simp; done) | (simp [*]; done)), (by first | rfl | (simp; done) | (simp [*]; done)), (by first | rfl | (simp; done) | (simp [*]; done)), H', ⟨by have := HK1.out; omega⟩, ⟨by repeat (first | (with_reducible first | exact HB.out | apply below_alloc | apply pw_below_drewN | apply below_drew1 | refine below_set ?_ GE121.out) | exact HB.out)⟩⟩
        · rw [if_neg c5] at H
          exact absurd H (by simp)
      · rw [if_neg c4] at H
        have c4b0 : decide (x14_1 < 28) = false := decide_eq_false c4
        clear c4
        simp only [Option.some.injEq, Prod.mk.injEq] at H
        obtain ⟨rfl, rfl⟩ := H
        go_wp2
        go_ret2
        exact ⟨by first | rfl | (simp [errW_none, errW_some] <;> rfl) | (simp [*, errW_none, errW_some] <;> rfl), by repeat (first | (with_reducible first | exact HB.out | apply below_alloc | apply pw_below_drewN | apply below_drew1) | exact HB.out)⟩

/-! ### refs_At: function 28 -/
def refs_At.j0 : Nat → ByteArray → Int → Bool → Bool → Option (ByteArray × Int)
  | 0, _, _, _, _ => none
  | k + 1, x0, x1, x2, x22 => if x22 = true then (some ((⟨#[]⟩ : ByteArray), (x0.size : Int))) else (if 0 ≤ x1 then (if x1 < (x0.size : Int) then (if (bt x0 x1) = 38 then (if 0 ≤ (wrap64 (x1 + 1)) then (if (wrap64 (x1 + 1)) ≤ (x0.size : Int) then ((strings_HasPrefix.f (x0.extract ((wrap64 (x1 + 1)) : Int).toNat x0.size) (⟨#[35]⟩ : ByteArray)).bind fun t130 => (if t130 = true then (if 1 ≤ ((x0.extract ((wrap64 (x1 + 1)) : Int).toNat x0.size).size : Int) then ((refs_number.f k ((x0.extract ((wrap64 (x1 + 1)) : Int).toNat x0.size).extract 1 (x0.extract ((wrap64 (x1 + 1)) : Int).toNat x0.size).size)).bind fun bt131 => (if bt131.2 > 0 then ((utf_Bytes.f k bt131.1).bind fun t133 => (some (t133, wrap64 ((wrap64 (x1 + 2)) + bt131.2)))) else (some ((⟨#[38]⟩ : ByteArray), wrap64 (x1 + 1))))) else (none)) else ((refs_named.f k (x0.extract ((wrap64 (x1 + 1)) : Int).toNat x0.size) x2).bind fun bt134 => (if bt134.2 > 0 then ((utf_Bytes.f k bt134.1).bind fun t136 => (some (t136, wrap64 ((wrap64 (x1 + 1)) + bt134.2)))) else (some ((⟨#[38]⟩ : ByteArray), wrap64 (x1 + 1))))))) else (none)) else (none)) else (if x1 ≤ (x0.size : Int) then ((utf_First.f k (x0.extract (x1 : Int).toNat x0.size)).bind fun bt127 => ((utf_Bytes.f k bt127.1).bind fun t129 => (some (t129, wrap64 (x1 + bt127.2))))) else (none))) else (none)) else (none))
def refs_At.f (k : Nat) (a0 : ByteArray) (a1 : Int) (a2 : Bool) : Option (ByteArray × Int) := if a1 < 0 then (refs_At.j0 k a0 a1 a2 true) else (refs_At.j0 k a0 a1 a2 (decide (a1 ≥ (a0.size : Int))))
theorem refs_At.mono_l : ∀ k, (∀ y0 y1 y2 y3, LeO (refs_At.j0 k y0 y1 y2 y3) (refs_At.j0 (k + 1) y0 y1 y2 y3))
  | 0 => fun _ _ _ _ r h => by simp [refs_At.j0] at h
  | k + 1 => by
    have ih0 := refs_At.mono_l k
    · intro y0 y1 y2 y3
      unfold refs_At.j0
      repeat' first
      | (with_reducible exact ih0 _ _ _ _)
      | (with_reducible exact refs_named.mono _ _ _)
      | (with_reducible exact refs_number.mono _ _)
      | (with_reducible exact utf_Bytes.mono _ _)
      | (with_reducible exact utf_First.mono _ _)
      | (with_reducible exact LeO.refl _)
      | (with_reducible exact LeO.none _)
      | (with_reducible refine LeO.ite ?_ ?_)
      | (with_reducible refine LeO.bind ?_ (fun _ => ?_))
      | exact ih0 _ _ _ _
      | exact refs_named.mono _ _ _
      | exact refs_number.mono _ _
      | exact utf_Bytes.mono _ _
      | exact utf_First.mono _ _
      | exact LeO.none _
      | refine LeO.ite ?_ ?_
      | refine LeO.bind ?_ (fun _ => ?_)
theorem refs_At.mono : ∀ a0 a1 a2 k, LeO (refs_At.f k a0 a1 a2) (refs_At.f (k + 1) a0 a1 a2) := by
  intro a0 a1 a2 k
  have ih0 := refs_At.mono_l k
  unfold refs_At.f
  repeat' first
      | (with_reducible exact ih0 _ _ _ _)
      | (with_reducible exact refs_named.mono _ _ _)
      | (with_reducible exact refs_number.mono _ _)
      | (with_reducible exact utf_Bytes.mono _ _)
      | (with_reducible exact utf_First.mono _ _)
      | (with_reducible exact LeO.refl _)
      | (with_reducible exact LeO.none _)
      | (with_reducible refine LeO.ite ?_ ?_)
      | (with_reducible refine LeO.bind ?_ (fun _ => ?_))
      | exact ih0 _ _ _ _
      | exact refs_named.mono _ _ _
      | exact refs_number.mono _ _
      | exact utf_Bytes.mono _ _
      | exact utf_First.mono _ _
      | exact LeO.none _
      | refine LeO.ite ?_ ?_
      | refine LeO.bind ?_ (fun _ => ?_)
set_option maxHeartbeats 8000000 in
set_option maxRecDepth 100000 in
theorem refs_At.calls (k : Nat) (a0 : ByteArray) (a1 : Int) (a2 : Bool) (r1 : ByteArray) (r2 : Int) (w : World) (h : refs_At.f k a0 a1 a2 = some (r1, r2)) (HG : Aside0 (Laid w)) :
    Calls Tryd.prog 28 #[.string a0, .int .i64 a1, .bool a2] w fun e w' => e = .returned (.tuple #[.string r1, .int .i64 r2]) ∧ Below w.heap.size w w' := by
  have HB := Aside0.mk (Below.refl w.heap.size w)
  have H : (if a1 < 0 then (refs_At.j0 k a0 a1 a2 true) else (refs_At.j0 k a0 a1 a2 (decide (a1 ≥ (a0.size : Int))))) = some (r1, r2) := h
  clear h
  have HC4 := Aside0.mk H
  clear H
  go_enter Tryd.func28, Tryd.ntmps28
  go_upto_region 1 with (fail)
  go_cut [22] (fun v22 wc => ∃ (kq : Nat) (x22_3 : Bool), v22 = .bool x22_3 ∧ Aside0 (refs_At.j0 kq a0 a1 a2 x22_3 = some (r1, r2)) ∧ Aside0 (kq ≤ k) ∧ Aside0 (Below w.heap.size w wc))
  case first =>
    have H := HC4.out
    clear HC4
    by_cases c5 : a1 < 0
    · rw [if_pos c5] at H
      have c5b0 : decide (a1 < 0) = true := decide_eq_true c5
      clear c5
      (first | rw [c5b0] | (simp only [i64_w, i32_w]; rw [c5b0]) | skip)
      have H' := Aside0.mk H
      clear H
      go_wp2
      go_meet
      case rel => exact ⟨_, (true), (by first | rfl | (simp; done) | (simp [*]; done)), H', ⟨by first | omega | exact Nat.le_refl _⟩, ⟨by repeat (first | (with_reducible first | exact HB.out | apply below_alloc | apply pw_below_drewN | apply below_drew1) | exact HB.out)⟩⟩
    · rw [if_neg c5] at H
      have c5b0 : decide (a1 < 0) = false := decide_eq_false c5
      clear c5
      (first | rw [c5b0] | (simp only [i64_w, i32_w]; rw [c5b0]) | skip)
      have H' := Aside0.mk H
      clear H
      go_wp2
      go_meet
      case rel => exact ⟨_, (decide (a1 ≥ (a0.size : Int))), (by first | rfl | (simp; done) | (simp [*]; done)), H', ⟨by first | omega | exact Nat.le_refl _⟩, ⟨by repeat (first | (with_reducible first | exact HB.out | apply below_alloc | apply pw_below_drewN | apply below_drew1) | exact HB.out)⟩⟩
  case rest =>
    clear HC4
    try clear c2
    try clear p2
    try clear c5
    try clear c5b0
    obtain ⟨kq, x22_3, rfl, HA, HJ3, HB⟩ := hcut
    cases kq with
    | zero => exact absurd HA.out (by simp [refs_At.j0])
    | succ kj3 =>
      have H := HA.out
      clear HA
      simp only [refs_At.j0] at H
      by_cases c6 : x22_3 = true
      · subst c6
        have H1 : (some ((⟨#[]⟩ : ByteArray), (a0.size : Int))) = some (r1, r2) := by rw [if_pos rfl] at H; exact H
        clear H
        have H := H1
        clear H1
        simp only [Option.some.injEq, Prod.mk.injEq] at H
        obtain ⟨rfl, rfl⟩ := H
        go_wp2
        go_ret2
        exact ⟨by first | rfl | (simp [errW_none, errW_some] <;> rfl) | (simp [*, errW_none, errW_some] <;> rfl), by repeat (first | (with_reducible first | exact HB.out | apply below_alloc | apply pw_below_drewN | apply below_drew1) | exact HB.out)⟩
      · replace c6 := Bool.eq_false_iff.mpr c6
        subst c6
        have H1 : (if 0 ≤ a1 then (if a1 < (a0.size : Int) then (if (bt a0 a1) = 38 then (if 0 ≤ (wrap64 (a1 + 1)) then (if (wrap64 (a1 + 1)) ≤ (a0.size : Int) then ((strings_HasPrefix.f (a0.extract ((wrap64 (a1 + 1)) : Int).toNat a0.size) (⟨#[35]⟩ : ByteArray)).bind fun t130 => (if t130 = true then (if 1 ≤ ((a0.extract ((wrap64 (a1 + 1)) : Int).toNat a0.size).size : Int) then ((refs_number.f kj3 ((a0.extract ((wrap64 (a1 + 1)) : Int).toNat a0.size).extract 1 (a0.extract ((wrap64 (a1 + 1)) : Int).toNat a0.size).size)).bind fun bt131 => (if bt131.2 > 0 then ((utf_Bytes.f kj3 bt131.1).bind fun t133 => (some (t133, wrap64 ((wrap64 (a1 + 2)) + bt131.2)))) else (some ((⟨#[38]⟩ : ByteArray), wrap64 (a1 + 1))))) else (none)) else ((refs_named.f kj3 (a0.extract ((wrap64 (a1 + 1)) : Int).toNat a0.size) a2).bind fun bt134 => (if bt134.2 > 0 then ((utf_Bytes.f kj3 bt134.1).bind fun t136 => (some (t136, wrap64 ((wrap64 (a1 + 1)) + bt134.2)))) else (some ((⟨#[38]⟩ : ByteArray), wrap64 (a1 + 1))))))) else (none)) else (none)) else (if a1 ≤ (a0.size : Int) then ((utf_First.f kj3 (a0.extract (a1 : Int).toNat a0.size)).bind fun bt127 => ((utf_Bytes.f kj3 bt127.1).bind fun t129 => (some (t129, wrap64 (a1 + bt127.2))))) else (none))) else (none)) else (none)) = some (r1, r2) := by rw [if_neg (show ¬ (false = true) by decide)] at H; exact H
        clear H
        have H := H1
        clear H1
        by_cases c7 : 0 ≤ a1
        · rw [if_pos c7] at H
          have c7b0 : decide (0 ≤ a1) = true := decide_eq_true c7
          clear c7
          by_cases c8 : a1 < (a0.size : Int)
          · rw [if_pos c8] at H
            have c8b0 : decide (a1 < (a0.size : Int)) = true := decide_eq_true c8
            clear c8
            by_cases c10 : (bt a0 a1) = 38
            · rw [if_pos c10] at H
              have c10b0 : ((bt a0 a1) == 38) = true := beq_iff_eq.mpr c10
              have c10b1 : ((bt a0 a1) != 38) = false := bne_eq_false_iff_eq.mpr c10
              clear c10
              obtain ⟨ji11, hji11⟩ : ∃ j_ : Int, (wrap64 (a1 + 1)) = j_ := ⟨_, rfl⟩
              replace H : (if 0 ≤ (ji11) then (if (ji11) ≤ (a0.size : Int) then ((strings_HasPrefix.f (a0.extract ((ji11) : Int).toNat a0.size) (⟨#[35]⟩ : ByteArray)).bind fun t130 => (if t130 = true then (if 1 ≤ ((a0.extract ((ji11) : Int).toNat a0.size).size : Int) then ((refs_number.f kj3 ((a0.extract ((ji11) : Int).toNat a0.size).extract 1 (a0.extract ((ji11) : Int).toNat a0.size).size)).bind fun bt131 => (if bt131.2 > 0 then ((utf_Bytes.f kj3 bt131.1).bind fun t133 => (some (t133, wrap64 ((wrap64 (a1 + 2)) + bt131.2)))) else (some ((⟨#[38]⟩ : ByteArray), ji11)))) else (none)) else ((refs_named.f kj3 (a0.extract ((ji11) : Int).toNat a0.size) a2).bind fun bt134 => (if bt134.2 > 0 then ((utf_Bytes.f kj3 bt134.1).bind fun t136 => (some (t136, wrap64 ((ji11) + bt134.2)))) else (some ((⟨#[38]⟩ : ByteArray), ji11)))))) else (none)) else (none)) = some (r1, r2) := by first | (rw [hji11] at H; exact H) | (simp only [hji11] at H ⊢; exact H)
              have hji11w : (IntKind.i64.wrap (a1 + 1)) = ji11 := (i64_w _).trans hji11
              by_cases c12 : 0 ≤ (ji11)
              · rw [if_pos c12] at H
                have c12b0 := eq_true c12
                have c12b1 : decide (0 ≤ (ji11)) = true := decide_eq_true c12
                clear c12
                by_cases c13 : (ji11) ≤ (a0.size : Int)
                · rw [if_pos c13] at H
                  have c13b0 := eq_true c13
                  have c13b1 : decide ((ji11) ≤ (a0.size : Int)) = true := decide_eq_true c13
                  clear c13
                  replace H := Option.bind_eq_some_iff.mp H
                  obtain ⟨t130, A140, H⟩ := H
                  replace H : (if t130 = true then (if 1 ≤ ((a0.extract ((ji11) : Int).toNat a0.size).size : Int) then ((refs_number.f kj3 ((a0.extract ((ji11) : Int).toNat a0.size).extract 1 (a0.extract ((ji11) : Int).toNat a0.size).size)).bind fun bt131 => (if bt131.2 > 0 then ((utf_Bytes.f kj3 bt131.1).bind fun t133 => (some (t133, wrap64 ((wrap64 (a1 + 2)) + bt131.2)))) else (some ((⟨#[38]⟩ : ByteArray), ji11)))) else (none)) else ((refs_named.f kj3 (a0.extract ((ji11) : Int).toNat a0.size) a2).bind fun bt134 => (if bt134.2 > 0 then ((utf_Bytes.f kj3 bt134.1).bind fun t136 => (some (t136, wrap64 ((ji11) + bt134.2)))) else (some ((⟨#[38]⟩ : ByteArray), ji11))))) = some (r1, r2) := H
                  have A14 := Aside0.mk A140
                  clear A140
                  by_cases c15 : t130 = true
                  · subst c15
                    have H1 : (if 1 ≤ ((a0.extract ((ji11) : Int).toNat a0.size).size : Int) then ((refs_number.f kj3 ((a0.extract ((ji11) : Int).toNat a0.size).extract 1 (a0.extract ((ji11) : Int).toNat a0.size).size)).bind fun bt131 => (if bt131.2 > 0 then ((utf_Bytes.f kj3 bt131.1).bind fun t133 => (some (t133, wrap64 ((wrap64 (a1 + 2)) + bt131.2)))) else (some ((⟨#[38]⟩ : ByteArray), ji11)))) else (none)) = some (r1, r2) := by rw [if_pos rfl] at H; exact H
                    clear H
                    have H := H1
                    clear H1
                    by_cases c16 : 1 ≤ ((a0.extract ((ji11) : Int).toNat a0.size).size : Int)
                    · rw [if_pos c16] at H
                      have c16b0 := eq_true c16
                      (try simp only [ByteArray.size_extract, Nat.min_self] at c16b0)
                      have c16b1 : decide (1 ≤ ((a0.extract ((ji11) : Int).toNat a0.size).size : Int)) = true := decide_eq_true c16
                      (try simp only [ByteArray.size_extract, Nat.min_self] at c16b1)
                      clear c16
                      replace H := Option.bind_eq_some_iff.mp H
                      obtain ⟨⟨t131, t132⟩, A170, H⟩ := H
                      replace H : (if t132 > 0 then ((utf_Bytes.f kj3 t131).bind fun t133 => (some (t133, wrap64 ((wrap64 (a1 + 2)) + t132)))) else (some ((⟨#[38]⟩ : ByteArray), ji11))) = some (r1, r2) := H
                      have A17 := Aside0.mk A170
                      clear A170
                      by_cases c18 : t132 > 0
                      · rw [if_pos c18] at H
                        have c18b0 : decide (0 < t132) = true := decide_eq_true c18
                        clear c18
                        replace H := Option.bind_eq_some_iff.mp H
                        obtain ⟨t133, A190, H⟩ := H
                        replace H : (some (t133, wrap64 ((wrap64 (a1 + 2)) + t132))) = some (r1, r2) := H
                        have A19 := Aside0.mk A190
                        clear A190
                        simp only [Option.some.injEq, Prod.mk.injEq] at H
                        obtain ⟨rfl, rfl⟩ := H
                        have p9 : 0 ≤ (a1 : Int) := of_decide_eq_true (by first | (with_reducible assumption) | assumption)
                        have q9 : a1 < (a0.size : Int) := of_decide_eq_true (by first | (with_reducible assumption) | assumption)
                        have hx9 := bt_at a0 a1
                        replace p9 := eq_true p9
                        replace q9 := eq_true q9
                        go_wp2_with (first | ((with_reducible refine gate_callee (f := 45) rfl ?_); refine goesL_ (some 46) rfl rfl Tryd.func45 (by kernel_rfl) rfl #[.string (a0.extract ((ji11) : Int).toNat a0.size), .string (⟨#[35]⟩ : ByteArray)] rfl (by (try simp only [List.map_toArray, List.map_cons, List.map_nil]); first | done | (simp only [ByteArray.size_extract, Nat.min_self]; rfl) | (simp only [hji11]; rfl) | rfl | (simp only [List.length_drop, List.length_take]; rfl)) ?_; (with_reducible refine (strings_HasPrefix.calls (a0.extract ((ji11) : Int).toNat a0.size) (⟨#[35]⟩ : ByteArray) true _ A14.out ?side1).mono ?_); (case side1 => exact Aside0.mk (Laid.below HG.out (by repeat (first | (with_reducible first | exact HB.out | apply below_alloc | apply pw_below_drewN | apply below_drew1) | exact HB.out)))); rintro e w' ⟨rfl, ⟨nd, rfl⟩⟩; refine ⟨_, rfl, ?_⟩) | ((with_reducible refine gate_callee (f := 46) rfl ?_); refine goesL_ (some 50) rfl rfl Tryd.func46 (by kernel_rfl) rfl #[.string ((a0.extract ((ji11) : Int).toNat a0.size).extract 1 (a0.extract ((ji11) : Int).toNat a0.size).size)] rfl (by (try simp only [List.map_toArray, List.map_cons, List.map_nil]); first | done | (simp only [ByteArray.size_extract, Nat.min_self]; rfl) | (simp only [hji11]; rfl) | rfl | (simp only [List.length_drop, List.length_take]; rfl)) ?_; (with_reducible refine (refs_number.calls kj3 ((a0.extract ((ji11) : Int).toNat a0.size).extract 1 (a0.extract ((ji11) : Int).toNat a0.size).size) t131 t132 _ A17.out ?side1).mono ?_); (case side1 => exact Aside0.mk (Laid.below HG.out (by repeat (first | (with_reducible first | exact HB.out | apply below_alloc | apply pw_below_drewN | apply below_drew1) | exact HB.out)))); rintro e w20 ⟨rfl, hb⟩; refine ⟨_, rfl, ?_⟩; have n0_ := Aside0.mk (below_step (by repeat (first | (with_reducible first | exact HB.out | apply below_alloc | apply pw_below_drewN | apply below_drew1) | exact HB.out)) hb); clear HB; have HB := n0_; clear n0_; (try clear hb); (try clear hb2); (try clear hk); (try clear hi)) | ((with_reducible refine gate_callee (f := 14) rfl ?_); refine goesL_ (some 56) rfl rfl Tryd.func14 (by kernel_rfl) rfl #[.int .i64 t131] rfl (by (try simp only [List.map_toArray, List.map_cons, List.map_nil]); first | done | rfl | (simp only [List.length_drop, List.length_take]; rfl)) ?_; (with_reducible refine (utf_Bytes.calls kj3 t131 t133 _ A19.out ?side1).mono ?_); (case side1 => exact Aside0.mk (Laid.below HG.out (by repeat (first | (with_reducible first | exact HB.out | apply below_alloc | apply pw_below_drewN | apply below_drew1) | exact HB.out)))); rintro e w21 ⟨rfl, hb⟩; refine ⟨_, rfl, ?_⟩; have n0_ := Aside0.mk (below_step (by repeat (first | (with_reducible first | exact HB.out | apply below_alloc | apply pw_below_drewN | apply below_drew1) | exact HB.out)) hb); clear HB; have HB := n0_; clear n0_; (try clear hb); (try clear hb2); (try clear hk); (try clear hi)))
                        go_ret2
                        exact ⟨by first | rfl | (simp [errW_none, errW_some] <;> rfl) | (simp only [← hji11]; first | rfl | (simp [errW_none, errW_some] <;> rfl)) | (simp [*, errW_none, errW_some] <;> rfl), by repeat (first | (with_reducible first | exact HB.out | apply below_alloc | apply pw_below_drewN | apply below_drew1) | exact HB.out)⟩
                      · rw [if_neg c18] at H
                        have c18b0 : decide (0 < t132) = false := decide_eq_false c18
                        clear c18
                        simp only [Option.some.injEq, Prod.mk.injEq] at H
                        obtain ⟨rfl, rfl⟩ := H
                        have p9 : 0 ≤ (a1 : Int) := of_decide_eq_true (by first | (with_reducible assumption) | assumption)
                        have q9 : a1 < (a0.size : Int) := of_decide_eq_true (by first | (with_reducible assumption) | assumption)
                        have hx9 := bt_at a0 a1
                        replace p9 := eq_true p9
                        replace q9 := eq_true q9
                        go_wp2_with (first | ((with_reducible refine gate_callee (f := 45) rfl ?_); refine goesL_ (some 46) rfl rfl Tryd.func45 (by kernel_rfl) rfl #[.string (a0.extract ((ji11) : Int).toNat a0.size), .string (⟨#[35]⟩ : ByteArray)] rfl (by (try simp only [List.map_toArray, List.map_cons, List.map_nil]); first | done | (simp only [ByteArray.size_extract, Nat.min_self]; rfl) | (simp only [hji11]; rfl) | rfl | (simp only [List.length_drop, List.length_take]; rfl)) ?_; (with_reducible refine (strings_HasPrefix.calls (a0.extract ((ji11) : Int).toNat a0.size) (⟨#[35]⟩ : ByteArray) true _ A14.out ?side1).mono ?_); (case side1 => exact Aside0.mk (Laid.below HG.out (by repeat (first | (with_reducible first | exact HB.out | apply below_alloc | apply pw_below_drewN | apply below_drew1) | exact HB.out)))); rintro e w' ⟨rfl, ⟨nd, rfl⟩⟩; refine ⟨_, rfl, ?_⟩) | ((with_reducible refine gate_callee (f := 46) rfl ?_); refine goesL_ (some 50) rfl rfl Tryd.func46 (by kernel_rfl) rfl #[.string ((a0.extract ((ji11) : Int).toNat a0.size).extract 1 (a0.extract ((ji11) : Int).toNat a0.size).size)] rfl (by (try simp only [List.map_toArray, List.map_cons, List.map_nil]); first | done | (simp only [ByteArray.size_extract, Nat.min_self]; rfl) | (simp only [hji11]; rfl) | rfl | (simp only [List.length_drop, List.length_take]; rfl)) ?_; (with_reducible refine (refs_number.calls kj3 ((a0.extract ((ji11) : Int).toNat a0.size).extract 1 (a0.extract ((ji11) : Int).toNat a0.size).size) t131 t132 _ A17.out ?side1).mono ?_); (case side1 => exact Aside0.mk (Laid.below HG.out (by repeat (first | (with_reducible first | exact HB.out | apply below_alloc | apply pw_below_drewN | apply below_drew1) | exact HB.out)))); rintro e w22 ⟨rfl, hb⟩; refine ⟨_, rfl, ?_⟩; have n0_ := Aside0.mk (below_step (by repeat (first | (with_reducible first | exact HB.out | apply below_alloc | apply pw_below_drewN | apply below_drew1) | exact HB.out)) hb); clear HB; have HB := n0_; clear n0_; (try clear hb); (try clear hb2); (try clear hk); (try clear hi)))
                        go_ret2
                        exact ⟨by first | rfl | (simp [errW_none, errW_some] <;> rfl) | (simp only [← hji11]; first | rfl | (simp [errW_none, errW_some] <;> rfl)) | (simp [*, errW_none, errW_some] <;> rfl), by repeat (first | (with_reducible first | exact HB.out | apply below_alloc | apply pw_below_drewN | apply below_drew1) | exact HB.out)⟩
                    · rw [if_neg c16] at H
                      exact absurd H (by simp)
                  · replace c15 := Bool.eq_false_iff.mpr c15
                    subst c15
                    have H1 : ((refs_named.f kj3 (a0.extract ((ji11) : Int).toNat a0.size) a2).bind fun bt134 => (if bt134.2 > 0 then ((utf_Bytes.f kj3 bt134.1).bind fun t136 => (some (t136, wrap64 ((ji11) + bt134.2)))) else (some ((⟨#[38]⟩ : ByteArray), ji11)))) = some (r1, r2) := by rw [if_neg (show ¬ (false = true) by decide)] at H; exact H
                    clear H
                    have H := H1
                    clear H1
                    replace H := Option.bind_eq_some_iff.mp H
                    obtain ⟨⟨t134, t135⟩, A230, H⟩ := H
                    replace H : (if t135 > 0 then ((utf_Bytes.f kj3 t134).bind fun t136 => (some (t136, wrap64 ((ji11) + t135)))) else (some ((⟨#[38]⟩ : ByteArray), ji11))) = some (r1, r2) := H
                    have A23 := Aside0.mk A230
                    clear A230
                    by_cases c24 : t135 > 0
                    · rw [if_pos c24] at H
                      have c24b0 : decide (0 < t135) = true := decide_eq_true c24
                      clear c24
                      replace H := Option.bind_eq_some_iff.mp H
                      obtain ⟨t136, A250, H⟩ := H
                      replace H : (some (t136, wrap64 ((ji11) + t135))) = some (r1, r2) := H
                      have A25 := Aside0.mk A250
                      clear A250
                      simp only [Option.some.injEq, Prod.mk.injEq] at H
                      obtain ⟨rfl, rfl⟩ := H
                      have p9 : 0 ≤ (a1 : Int) := of_decide_eq_true (by first | (with_reducible assumption) | assumption)
                      have q9 : a1 < (a0.size : Int) := of_decide_eq_true (by first | (with_reducible assumption) | assumption)
                      have hx9 := bt_at a0 a1
                      replace p9 := eq_true p9
                      replace q9 := eq_true q9
                      go_wp2_with (first | ((with_reducible refine gate_callee (f := 45) rfl ?_); refine goesL_ (some 46) rfl rfl Tryd.func45 (by kernel_rfl) rfl #[.string (a0.extract ((ji11) : Int).toNat a0.size), .string (⟨#[35]⟩ : ByteArray)] rfl (by (try simp only [List.map_toArray, List.map_cons, List.map_nil]); first | done | (simp only [ByteArray.size_extract, Nat.min_self]; rfl) | (simp only [hji11]; rfl) | rfl | (simp only [List.length_drop, List.length_take]; rfl)) ?_; (with_reducible refine (strings_HasPrefix.calls (a0.extract ((ji11) : Int).toNat a0.size) (⟨#[35]⟩ : ByteArray) false _ A14.out ?side1).mono ?_); (case side1 => exact Aside0.mk (Laid.below HG.out (by repeat (first | (with_reducible first | exact HB.out | apply below_alloc | apply pw_below_drewN | apply below_drew1) | exact HB.out)))); rintro e w' ⟨rfl, ⟨nd, rfl⟩⟩; refine ⟨_, rfl, ?_⟩) | ((with_reducible refine gate_callee (f := 47) rfl ?_); refine goesL_ (some 66) rfl rfl Tryd.func47 (by kernel_rfl) rfl #[.string (a0.extract ((ji11) : Int).toNat a0.size), .bool a2] rfl (by (try simp only [List.map_toArray, List.map_cons, List.map_nil]); first | done | (simp only [ByteArray.size_extract, Nat.min_self]; rfl) | (simp only [hji11]; rfl) | rfl | (simp only [List.length_drop, List.length_take]; rfl)) ?_; (with_reducible refine (refs_named.calls kj3 (a0.extract ((ji11) : Int).toNat a0.size) a2 t134 t135 _ A23.out ?side1).mono ?_); (case side1 => exact Aside0.mk (Laid.below HG.out (by repeat (first | (with_reducible first | exact HB.out | apply below_alloc | apply pw_below_drewN | apply below_drew1) | exact HB.out)))); rintro e w26 ⟨rfl, hb⟩; refine ⟨_, rfl, ?_⟩; have n0_ := Aside0.mk (below_step (by repeat (first | (with_reducible first | exact HB.out | apply below_alloc | apply pw_below_drewN | apply below_drew1) | exact HB.out)) hb); clear HB; have HB := n0_; clear n0_; (try clear hb); (try clear hb2); (try clear hk); (try clear hi)) | ((with_reducible refine gate_callee (f := 14) rfl ?_); refine goesL_ (some 72) rfl rfl Tryd.func14 (by kernel_rfl) rfl #[.int .i64 t134] rfl (by (try simp only [List.map_toArray, List.map_cons, List.map_nil]); first | done | rfl | (simp only [List.length_drop, List.length_take]; rfl)) ?_; (with_reducible refine (utf_Bytes.calls kj3 t134 t136 _ A25.out ?side1).mono ?_); (case side1 => exact Aside0.mk (Laid.below HG.out (by repeat (first | (with_reducible first | exact HB.out | apply below_alloc | apply pw_below_drewN | apply below_drew1) | exact HB.out)))); rintro e w27 ⟨rfl, hb⟩; refine ⟨_, rfl, ?_⟩; have n0_ := Aside0.mk (below_step (by repeat (first | (with_reducible first | exact HB.out | apply below_alloc | apply pw_below_drewN | apply below_drew1) | exact HB.out)) hb); clear HB; have HB := n0_; clear n0_; (try clear hb); (try clear hb2); (try clear hk); (try clear hi)))
                      go_ret2
                      exact ⟨by first | rfl | (simp [errW_none, errW_some] <;> rfl) | (simp only [← hji11]; first | rfl | (simp [errW_none, errW_some] <;> rfl)) | (simp [*, errW_none, errW_some] <;> rfl), by repeat (first | (with_reducible first | exact HB.out | apply below_alloc | apply pw_below_drewN | apply below_drew1) | exact HB.out)⟩
                    · rw [if_neg c24] at H
                      have c24b0 : decide (0 < t135) = false := decide_eq_false c24
                      clear c24
                      simp only [Option.some.injEq, Prod.mk.injEq] at H
                      obtain ⟨rfl, rfl⟩ := H
                      have p9 : 0 ≤ (a1 : Int) := of_decide_eq_true (by first | (with_reducible assumption) | assumption)
                      have q9 : a1 < (a0.size : Int) := of_decide_eq_true (by first | (with_reducible assumption) | assumption)
                      have hx9 := bt_at a0 a1
                      replace p9 := eq_true p9
                      replace q9 := eq_true q9
                      go_wp2_with (first | ((with_reducible refine gate_callee (f := 45) rfl ?_); refine goesL_ (some 46) rfl rfl Tryd.func45 (by kernel_rfl) rfl #[.string (a0.extract ((ji11) : Int).toNat a0.size), .string (⟨#[35]⟩ : ByteArray)] rfl (by (try simp only [List.map_toArray, List.map_cons, List.map_nil]); first | done | (simp only [ByteArray.size_extract, Nat.min_self]; rfl) | (simp only [hji11]; rfl) | rfl | (simp only [List.length_drop, List.length_take]; rfl)) ?_; (with_reducible refine (strings_HasPrefix.calls (a0.extract ((ji11) : Int).toNat a0.size) (⟨#[35]⟩ : ByteArray) false _ A14.out ?side1).mono ?_); (case side1 => exact Aside0.mk (Laid.below HG.out (by repeat (first | (with_reducible first | exact HB.out | apply below_alloc | apply pw_below_drewN | apply below_drew1) | exact HB.out)))); rintro e w' ⟨rfl, ⟨nd, rfl⟩⟩; refine ⟨_, rfl, ?_⟩) | ((with_reducible refine gate_callee (f := 47) rfl ?_); refine goesL_ (some 66) rfl rfl Tryd.func47 (by kernel_rfl) rfl #[.string (a0.extract ((ji11) : Int).toNat a0.size), .bool a2] rfl (by (try simp only [List.map_toArray, List.map_cons, List.map_nil]); first | done | (simp only [ByteArray.size_extract, Nat.min_self]; rfl) | (simp only [hji11]; rfl) | rfl | (simp only [List.length_drop, List.length_take]; rfl)) ?_; (with_reducible refine (refs_named.calls kj3 (a0.extract ((ji11) : Int).toNat a0.size) a2 t134 t135 _ A23.out ?side1).mono ?_); (case side1 => exact Aside0.mk (Laid.below HG.out (by repeat (first | (with_reducible first | exact HB.out | apply below_alloc | apply pw_below_drewN | apply below_drew1) | exact HB.out)))); rintro e w28 ⟨rfl, hb⟩; refine ⟨_, rfl, ?_⟩; have n0_ := Aside0.mk (below_step (by repeat (first | (with_reducible first | exact HB.out | apply below_alloc | apply pw_below_drewN | apply below_drew1) | exact HB.out)) hb); clear HB; have HB := n0_; clear n0_; (try clear hb); (try clear hb2); (try clear hk); (try clear hi)))
                      go_ret2
                      exact ⟨by first | rfl | (simp [errW_none, errW_some] <;> rfl) | (simp only [← hji11]; first | rfl | (simp [errW_none, errW_some] <;> rfl)) | (simp [*, errW_none, errW_some] <;> rfl), by repeat (first | (with_reducible first | exact HB.out | apply below_alloc | apply pw_below_drewN | apply below_drew1) | exact HB.out)⟩
                · rw [if_neg c13] at H
                  exact absurd H (by simp)
              · rw [if_neg c12] at H
                exact absurd H (by simp)
            · rw [if_neg c10] at H
              have c10b0 : ((bt a0 a1) == 38) = false := beq_eq_false_iff_ne.mpr c10
              have c10b1 : ((bt a0 a1) != 38) = true := bne_iff_ne.mpr c10
              have c29b0 := eq_true (of_decide_eq_true (by first | (with_reducible assumption) | assumption) : 0 ≤ a1)
              by_cases c30 : a1 ≤ (a0.size : Int)
              · rw [if_pos c30] at H
                have c30b0 := eq_true c30
                have c30b1 : decide (a1 ≤ (a0.size : Int)) = true := decide_eq_true c30
                clear c30
                replace H := Option.bind_eq_some_iff.mp H
                obtain ⟨⟨t127, t128⟩, A310, H⟩ := H
                replace H : ((utf_Bytes.f kj3 t127).bind fun t129 => (some (t129, wrap64 (a1 + t128)))) = some (r1, r2) := H
                have A31 := Aside0.mk A310
                clear A310
                replace H := Option.bind_eq_some_iff.mp H
                obtain ⟨t129, A320, H⟩ := H
                replace H : (some (t129, wrap64 (a1 + t128))) = some (r1, r2) := H
                have A32 := Aside0.mk A320
                clear A320
                simp only [Option.some.injEq, Prod.mk.injEq] at H
                obtain ⟨rfl, rfl⟩ := H
                have p9 : 0 ≤ (a1 : Int) := of_decide_eq_true (by first | (with_reducible assumption) | assumption)
                have q9 : a1 < (a0.size : Int) := of_decide_eq_true (by first | (with_reducible assumption) | assumption)
                have hx9 := bt_at a0 a1
                replace p9 := eq_true p9
                replace q9 := eq_true q9
                go_wp2_with (first | ((with_reducible refine gate_callee (f := 17) rfl ?_); refine goesL_ (some 33) rfl rfl Tryd.func17 (by kernel_rfl) rfl #[.string (a0.extract (a1 : Int).toNat a0.size)] rfl (by (try simp only [List.map_toArray, List.map_cons, List.map_nil]); first | done | rfl | (simp only [List.length_drop, List.length_take]; rfl)) ?_; (with_reducible refine (utf_First.calls kj3 (a0.extract (a1 : Int).toNat a0.size) t127 t128 _ A31.out ?side1).mono ?_); (case side1 => exact Aside0.mk (Laid.below HG.out (by repeat (first | (with_reducible first | exact HB.out | apply below_alloc | apply pw_below_drewN | apply below_drew1) | exact HB.out)))); rintro e w' ⟨rfl, ⟨nd, rfl⟩⟩; refine ⟨_, rfl, ?_⟩) | ((with_reducible refine gate_callee (f := 14) rfl ?_); refine goesL_ (some 37) rfl rfl Tryd.func14 (by kernel_rfl) rfl #[.int .i64 t127] rfl (by (try simp only [List.map_toArray, List.map_cons, List.map_nil]); first | done | rfl | (simp only [List.length_drop, List.length_take]; rfl)) ?_; (with_reducible refine (utf_Bytes.calls kj3 t127 t129 _ A32.out ?side1).mono ?_); (case side1 => exact Aside0.mk (Laid.below HG.out (by repeat (first | (with_reducible first | exact HB.out | apply below_alloc | apply pw_below_drewN | apply below_drew1) | exact HB.out)))); rintro e w33 ⟨rfl, hb⟩; refine ⟨_, rfl, ?_⟩; have n0_ := Aside0.mk (below_step (by repeat (first | (with_reducible first | exact HB.out | apply below_alloc | apply pw_below_drewN | apply below_drew1) | exact HB.out)) hb); clear HB; have HB := n0_; clear n0_; (try clear hb); (try clear hb2); (try clear hk); (try clear hi)))
                go_ret2
                exact ⟨by first | rfl | (simp [errW_none, errW_some] <;> rfl) | (simp [*, errW_none, errW_some] <;> rfl), by repeat (first | (with_reducible first | exact HB.out | apply below_alloc | apply pw_below_drewN | apply below_drew1) | exact HB.out)⟩
              · rw [if_neg c30] at H
                exact absurd H (by simp)
          · rw [if_neg c8] at H
            exact absurd H (by simp)
        · rw [if_neg c7] at H
          exact absurd H (by simp)

end Go.Proofs.YtenbdffgnbibeaaDoor.X
