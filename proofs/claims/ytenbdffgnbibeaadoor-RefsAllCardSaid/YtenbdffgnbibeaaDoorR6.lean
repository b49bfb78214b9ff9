/- Functions of the Go text as plain Lean functions, each with a proof that the machine's call comes to what it answers, under the condition that the package-level tables hold what their initialisers lay. Written by a program. -/
import Derived.Test.YtenbdffgnbibeaaDoorR0
import Derived.Test.YtenbdffgnbibeaaDoorR5
namespace Go.Proofs.YtenbdffgnbibeaaDoor.R
open Go.RowKit Go.Proofs.YtenbdffgnbibeaaDoorW.PrintWords Go.Proofs.YtenbdffgnbibeaaDoorW.PrintLast Go.Proofs.YtenbdffgnbibeaaDoorW.PrintMore
attribute [local go_sem] max2_int min2_int max_two min_two max_three min_three max_four min_four   -- for this text's walks alone
set_option linter.unusedVariables false
set_option linter.unusedSimpArgs false

/-! ### rectoref02_At: function 41 -/
mutual
def rectoref02_At.j2 : Nat → ByteArray → Int → Int → Option (Int × Int × Bool)
  | 0, _, _, _ => none
  | k + 1, x0, x1, x9 => (rectoref02_Is.f x9).bind fun t161 => (if t161 = true then ((rectoref02_Bytes.f k x9).bind fun t162 => (if (wrap64 ((x0.size : Int) - x1)) < (t162.size : Int) then (some (65533, 1, false)) else (if 0 ≤ x1 then (if x1 ≤ (wrap64 (x1 + (t162.size : Int))) then (if (wrap64 (x1 + (t162.size : Int))) ≤ (x0.size : Int) then (if (x0.extract (x1 : Int).toNat ((wrap64 (x1 + (t162.size : Int))) : Int).toNat).toList = t162.toList then (some (x9, (t162.size : Int), true)) else (some (65533, 1, false))) else (none)) else (none)) else (none)))) else (some (65533, 1, false)))
def rectoref02_At.j0 : Nat → ByteArray → Int → Int → Int → Int → Int → Int → Bool → Option (Int × Int × Bool)
  | 0, _, _, _, _, _, _, _, _ => none
  | k + 1, x0, x1, x5, x6, x7, x8, x9, x39 => if x39 = true then (rectoref02_At.j2 k x0 x1 (wrap64 ((wrap64 (64 * (wrap64 (x5 - 192)))) + x6))) else (if x5 ≥ 224 then (if x5 < 240 then (if x6 ≥ 0 then (rectoref02_At.j1 k x0 x1 x5 x6 x7 x8 x9 (decide (x7 ≥ 0))) else (rectoref02_At.j1 k x0 x1 x5 x6 x7 x8 x9 false)) else (rectoref02_At.j1 k x0 x1 x5 x6 x7 x8 x9 false)) else (rectoref02_At.j1 k x0 x1 x5 x6 x7 x8 x9 false))
def rectoref02_At.j1 : Nat → ByteArray → Int → Int → Int → Int → Int → Int → Bool → Option (Int × Int × Bool)
  | 0, _, _, _, _, _, _, _, _ => none
  | k + 1, x0, x1, x5, x6, x7, x8, x9, x58 => if x58 = true then (rectoref02_At.j2 k x0 x1 (wrap64 ((wrap64 ((wrap64 (4096 * (wrap64 (x5 - 224)))) + (wrap64 (64 * x6)))) + x7))) else (if x5 ≥ 240 then (if x5 < 248 then (if x6 ≥ 0 then (if x7 ≥ 0 then (if x8 ≥ 0 then (rectoref02_At.j2 k x0 x1 (wrap64 ((wrap64 ((wrap64 ((wrap64 (262144 * (wrap64 (x5 - 240)))) + (wrap64 (4096 * x6)))) + (wrap64 (64 * x7)))) + x8))) else (rectoref02_At.j2 k x0 x1 x9)) else (rectoref02_At.j2 k x0 x1 x9)) else (rectoref02_At.j2 k x0 x1 x9)) else (rectoref02_At.j2 k x0 x1 x9)) else (rectoref02_At.j2 k x0 x1 x9))
end
def rectoref02_At.f (k : Nat) (a0 : ByteArray) (a1 : Int) : Option (Int × Int × Bool) := if 0 ≤ a1 then (if a1 < (a0.size : Int) then ((rectoref02_low.f a0 (wrap64 (a1 + 1))).bind fun t158 => ((rectoref02_low.f a0 (wrap64 (a1 + 2))).bind fun t159 => ((rectoref02_low.f a0 (wrap64 (a1 + 3))).bind fun t160 => (if (wrap64 (bt a0 a1)) < 128 then (rectoref02_At.j2 k a0 a1 (wrap64 (bt a0 a1))) else (if (wrap64 (bt a0 a1)) ≥ 192 then (if (wrap64 (bt a0 a1)) < 224 then (rectoref02_At.j0 k a0 a1 (wrap64 (bt a0 a1)) t158 t159 t160 (-1) (decide (t158 ≥ 0))) else (rectoref02_At.j0 k a0 a1 (wrap64 (bt a0 a1)) t158 t159 t160 (-1) false)) else (rectoref02_At.j0 k a0 a1 (wrap64 (bt a0 a1)) t158 t159 t160 (-1) false)))))) else (none)) else (none)
theorem rectoref02_At.mono_l : ∀ k, (∀ y0 y1 y2, LeO (rectoref02_At.j2 k y0 y1 y2) (rectoref02_At.j2 (k + 1) y0 y1 y2)) ∧ (∀ y0 y1 y2 y3 y4 y5 y6 y7, LeO (rectoref02_At.j0 k y0 y1 y2 y3 y4 y5 y6 y7) (rectoref02_At.j0 (k + 1) y0 y1 y2 y3 y4 y5 y6 y7)) ∧ (∀ y0 y1 y2 y3 y4 y5 y6 y7, LeO (rectoref02_At.j1 k y0 y1 y2 y3 y4 y5 y6 y7) (rectoref02_At.j1 (k + 1) y0 y1 y2 y3 y4 y5 y6 y7))
  | 0 => ⟨fun _ _ _ r h => by simp [rectoref02_At.j2] at h, fun _ _ _ _ _ _ _ _ r h => by simp [rectoref02_At.j0] at h, fun _ _ _ _ _ _ _ _ r h => by simp [rectoref02_At.j1] at h⟩
  | k + 1 => by
    obtain ⟨ih0, ih1, ih2⟩ := rectoref02_At.mono_l k
    refine ⟨?_, ?_, ?_⟩
    · intro y0 y1 y2
      unfold rectoref02_At.j2
      repeat' first
      | (with_reducible exact ih0 _ _ _)
      | (with_reducible exact ih1 _ _ _ _ _ _ _ _)
      | (with_reducible exact ih2 _ _ _ _ _ _ _ _)
      | (with_reducible exact rectoref02_Bytes.mono _ _)
      | (with_reducible exact LeO.refl _)
      | (with_reducible exact LeO.none _)
      | (with_reducible refine LeO.ite ?_ ?_)
      | (with_reducible refine LeO.bind ?_ (fun _ => ?_))
      | exact ih0 _ _ _
      | exact ih1 _ _ _ _ _ _ _ _
      | exact ih2 _ _ _ _ _ _ _ _
      | exact rectoref02_Bytes.mono _ _
      | exact LeO.none _
      | refine LeO.ite ?_ ?_
      | refine LeO.bind ?_ (fun _ => ?_)
    · intro y0 y1 y2 y3 y4 y5 y6 y7
      unfold rectoref02_At.j0
      repeat' first
      | (with_reducible exact ih0 _ _ _)
      | (with_reducible exact ih1 _ _ _ _ _ _ _ _)
      | (with_reducible exact ih2 _ _ _ _ _ _ _ _)
      | (with_reducible exact rectoref02_Bytes.mono _ _)
      | (with_reducible exact LeO.refl _)
      | (with_reducible exact LeO.none _)
      | (with_reducible refine LeO.ite ?_ ?_)
      | (with_reducible refine LeO.bind ?_ (fun _ => ?_))
      | exact ih0 _ _ _
      | exact ih1 _ _ _ _ _ _ _ _
      | exact ih2 _ _ _ _ _ _ _ _
      | exact rectoref02_Bytes.mono _ _
      | exact LeO.none _
      | refine LeO.ite ?_ ?_
      | refine LeO.bind ?_ (fun _ => ?_)
    · intro y0 y1 y2 y3 y4 y5 y6 y7
      unfold rectoref02_At.j1
      repeat' first
      | (with_reducible exact ih0 _ _ _)
      | (with_reducible exact ih1 _ _ _ _ _ _ _ _)
      | (with_reducible exact ih2 _ _ _ _ _ _ _ _)
      | (with_reducible exact rectoref02_Bytes.mono _ _)
      | (with_reducible exact LeO.refl _)
      | (with_reducible exact LeO.none _)
      | (with_reducible refine LeO.ite ?_ ?_)
      | (with_reducible refine LeO.bind ?_ (fun _ => ?_))
      | exact ih0 _ _ _
      | exact ih1 _ _ _ _ _ _ _ _
      | exact ih2 _ _ _ _ _ _ _ _
      | exact rectoref02_Bytes.mono _ _
      | exact LeO.none _
      | refine LeO.ite ?_ ?_
      | refine LeO.bind ?_ (fun _ => ?_)
theorem rectoref02_At.mono : ∀ a0 a1 k, LeO (rectoref02_At.f k a0 a1) (rectoref02_At.f (k + 1) a0 a1) := by
  intro a0 a1 k
  obtain ⟨ih0, ih1, ih2⟩ := rectoref02_At.mono_l k
  unfold rectoref02_At.f
  repeat' first
      | (with_reducible exact ih0 _ _ _)
      | (with_reducible exact ih1 _ _ _ _ _ _ _ _)
      | (with_reducible exact ih2 _ _ _ _ _ _ _ _)
      | (with_reducible exact rectoref02_Bytes.mono _ _)
      | (with_reducible exact LeO.refl _)
      | (with_reducible exact LeO.none _)
      | (with_reducible refine LeO.ite ?_ ?_)
      | (with_reducible refine LeO.bind ?_ (fun _ => ?_))
      | exact ih0 _ _ _
      | exact ih1 _ _ _ _ _ _ _ _
      | exact ih2 _ _ _ _ _ _ _ _
      | exact rectoref02_Bytes.mono _ _
      | exact LeO.none _
      | refine LeO.ite ?_ ?_
      | refine LeO.bind ?_ (fun _ => ?_)
set_option maxHeartbeats 8000000 in
set_option maxRecDepth 100000 in
theorem rectoref02_At.calls (k : Nat) (a0 : ByteArray) (a1 : Int) (r1 : Int) (r2 : Int) (r3 : Bool) (w : World) (h : rectoref02_At.f k a0 a1 = some (r1, r2, r3)) (HG : Aside0 (Laid w)) :
    Calls Tryd.prog 41 #[.string a0, .int .i64 a1] w fun e w' => e = .returned (.agg #[.int .i64 r1, .int .i64 r2, .bool r3]) ∧ Below w.heap.size w w' := by
  have hu28 := Tryd.underlying28
  have HB := Aside0.mk (Below.refl w.heap.size w)
  have H : (if 0 ≤ a1 then (if a1 < (a0.size : Int) then ((rectoref02_low.f a0 (wrap64 (a1 + 1))).bind fun t158 => ((rectoref02_low.f a0 (wrap64 (a1 + 2))).bind fun t159 => ((rectoref02_low.f a0 (wrap64 (a1 + 3))).bind fun t160 => (if (wrap64 (bt a0 a1)) < 128 then (rectoref02_At.j2 k a0 a1 (wrap64 (bt a0 a1))) else (if (wrap64 (bt a0 a1)) ≥ 192 then (if (wrap64 (bt a0 a1)) < 224 then (rectoref02_At.j0 k a0 a1 (wrap64 (bt a0 a1)) t158 t159 t160 (-1) (decide (t158 ≥ 0))) else (rectoref02_At.j0 k a0 a1 (wrap64 (bt a0 a1)) t158 t159 t160 (-1) false)) else (rectoref02_At.j0 k a0 a1 (wrap64 (bt a0 a1)) t158 t159 t160 (-1) false)))))) else (none)) else (none)) = some (r1, r2, r3) := h
  clear h
  by_cases c3 : 0 ≤ a1
  · rw [if_pos c3] at H
    have c3b0 : decide (0 ≤ a1) = true := decide_eq_true c3
    clear c3
    by_cases c4 : a1 < (a0.size : Int)
    · rw [if_pos c4] at H
      have c4b0 : decide (a1 < (a0.size : Int)) = true := decide_eq_true c4
      clear c4
      replace H := Option.bind_eq_some_iff.mp H
      obtain ⟨t158, A60, H⟩ := H
      replace H : ((rectoref02_low.f a0 (wrap64 (a1 + 2))).bind fun t159 => ((rectoref02_low.f a0 (wrap64 (a1 + 3))).bind fun t160 => (if (wrap64 (bt a0 a1)) < 128 then (rectoref02_At.j2 k a0 a1 (wrap64 (bt a0 a1))) else (if (wrap64 (bt a0 a1)) ≥ 192 then (if (wrap64 (bt a0 a1)) < 224 then (rectoref02_At.j0 k a0 a1 (wrap64 (bt a0 a1)) t158 t159 t160 (-1) (decide (t158 ≥ 0))) else (rectoref02_At.j0 k a0 a1 (wrap64 (bt a0 a1)) t158 t159 t160 (-1) false)) else (rectoref02_At.j0 k a0 a1 (wrap64 (bt a0 a1)) t158 t159 t160 (-1) false))))) = some (r1, r2, r3) := H
      have A6 := Aside0.mk A60
      clear A60
      replace H := Option.bind_eq_some_iff.mp H
      obtain ⟨t159, A70, H⟩ := H
      replace H : ((rectoref02_low.f a0 (wrap64 (a1 + 3))).bind fun t160 => (if (wrap64 (bt a0 a1)) < 128 then (rectoref02_At.j2 k a0 a1 (wrap64 (bt a0 a1))) else (if (wrap64 (bt a0 a1)) ≥ 192 then (if (wrap64 (bt a0 a1)) < 224 then (rectoref02_At.j0 k a0 a1 (wrap64 (bt a0 a1)) t158 t159 t160 (-1) (decide (t158 ≥ 0))) else (rectoref02_At.j0 k a0 a1 (wrap64 (bt a0 a1)) t158 t159 t160 (-1) false)) else (rectoref02_At.j0 k a0 a1 (wrap64 (bt a0 a1)) t158 t159 t160 (-1) false)))) = some (r1, r2, r3) := H
      have A7 := Aside0.mk A70
      clear A70
      replace H := Option.bind_eq_some_iff.mp H
      obtain ⟨t160, A80, H⟩ := H
      replace H : (if (wrap64 (bt a0 a1)) < 128 then (rectoref02_At.j2 k a0 a1 (wrap64 (bt a0 a1))) else (if (wrap64 (bt a0 a1)) ≥ 192 then (if (wrap64 (bt a0 a1)) < 224 then (rectoref02_At.j0 k a0 a1 (wrap64 (bt a0 a1)) t158 t159 t160 (-1) (decide (t158 ≥ 0))) else (rectoref02_At.j0 k a0 a1 (wrap64 (bt a0 a1)) t158 t159 t160 (-1) false)) else (rectoref02_At.j0 k a0 a1 (wrap64 (bt a0 a1)) t158 t159 t160 (-1) false))) = some (r1, r2, r3) := H
      have A8 := Aside0.mk A80
      clear A80
      have HC9 := Aside0.mk H
      clear H
      go_enter Tryd.func41, Tryd.ntmps41
      go_upto_if 28 with (first | ((with_reducible refine gate_dst (N := 4) rfl ?_); (try (refine gate_guard (by rfl) ?_; dsimp only)); refine box_event ?hg (N := 4) ?hd (cs := #[.int .i64 0, .int .i64 0, .bool false]) (t := 28) ?hr ?_; (case hd => rfl); (case hg => rfl); (case hr => first | (go_simp; done) | (go_simp; rfl)); intro gb157 hg w10 hbox hb; have n0_ := Aside0.mk (below_step (by repeat (first | (with_reducible first | exact HB.out | apply below_alloc | apply pw_below_drewN | apply below_drew1) | exact HB.out)) hb); have n1_ := Aside0.mk (hbox); have n2_ := Aside0.mk ((by rw [hg]; exact (below_size (by repeat (first | (with_reducible first | exact HB.out | apply below_alloc | apply pw_below_drewN | apply below_drew1) | exact HB.out))) : w.heap.size ≤ gb157)); have n3_ := Aside0.mk ((by rw [hg]; exact (below_size (by repeat (first | (with_reducible first | exact HB.out | apply below_alloc | apply pw_below_drewN | apply below_drew1) | exact HB.out))) : w.heap.size ≤ gb157)); clear HB; have HB := n0_; have BK157 := n1_; have GW157 := n2_; have GE157 := n3_; clear n0_ n1_ n2_ n3_; clear hb hbox hg; have p5 : 0 ≤ (a1 : Int) := of_decide_eq_true (by first | (with_reducible assumption) | assumption); have q5 : a1 < (a0.size : Int) := of_decide_eq_true (by first | (with_reducible assumption) | assumption); have hx5 := bt_at a0 a1; replace p5 := eq_true p5; replace q5 := eq_true q5) | ((with_reducible refine gate_callee (f := 53) rfl ?_); refine goesL_ (some 18) rfl rfl Tryd.func53 (by kernel_rfl) rfl #[.string a0, .int .i64 (wrap64 (a1 + 1))] rfl (by (try simp only [List.map_toArray, List.map_cons, List.map_nil]); first | done | rfl | (simp only [List.length_drop, List.length_take]; rfl)) ?_; (with_reducible refine (rectoref02_low.calls a0 (wrap64 (a1 + 1)) t158 _ A6.out ?side1).mono ?_); (case side1 => exact Aside0.mk (Laid.below HG.out (by repeat (first | (with_reducible first | exact HB.out | apply below_alloc | apply pw_below_drewN | apply below_drew1 | refine below_set ?_ GE157.out) | exact HB.out)))); rintro e w' ⟨rfl, ⟨nd, rfl⟩⟩; refine ⟨_, rfl, ?_⟩) | ((with_reducible refine gate_callee (f := 53) rfl ?_); refine goesL_ (some 22) rfl rfl Tryd.func53 (by kernel_rfl) rfl #[.string a0, .int .i64 (wrap64 (a1 + 2))] rfl (by (try simp only [List.map_toArray, List.map_cons, List.map_nil]); first | done | rfl | (simp only [List.length_drop, List.length_take]; rfl)) ?_; (with_reducible refine (rectoref02_low.calls a0 (wrap64 (a1 + 2)) t159 _ A7.out ?side1).mono ?_); (case side1 => exact Aside0.mk (Laid.below HG.out (by repeat (first | (with_reducible first | exact HB.out | apply below_alloc | apply pw_below_drewN | apply below_drew1 | refine below_set ?_ GE157.out) | exact HB.out)))); rintro e w' ⟨rfl, ⟨nd, rfl⟩⟩; refine ⟨_, rfl, ?_⟩) | ((with_reducible refine gate_callee (f := 53) rfl ?_); refine goesL_ (some 26) rfl rfl Tryd.func53 (by kernel_rfl) rfl #[.string a0, .int .i64 (wrap64 (a1 + 3))] rfl (by (try simp only [List.map_toArray, List.map_cons, List.map_nil]); first | done | rfl | (simp only [List.length_drop, List.length_take]; rfl)) ?_; (with_reducible refine (rectoref02_low.calls a0 (wrap64 (a1 + 3)) t160 _ A8.out ?side1).mono ?_); (case side1 => exact Aside0.mk (Laid.below HG.out (by repeat (first | (with_reducible first | exact HB.out | apply below_alloc | apply pw_below_drewN | apply below_drew1 | refine below_set ?_ GE157.out) | exact HB.out)))); rintro e w' ⟨rfl, ⟨nd, rfl⟩⟩; refine ⟨_, rfl, ?_⟩))
      (try simp only [Act.put, List.setIfInBounds_toArray, List.set_cons_zero, List.set_cons_succ])
      go_cut [9] (fun v9 wc => ∃ (kq : Nat) (x9_8 : Int), v9 = .int .i64 x9_8 ∧ Aside0 (rectoref02_At.j2 kq a0 a1 x9_8 = some (r1, r2, r3)) ∧ Aside0 (kq ≤ k) ∧ Aside0 (wc.heap[gb157]? = some (.cells #[.int .i64 0, .int .i64 0, .bool false] 28 (0, 0))) ∧ Aside0 (Below w.heap.size w wc))
      case first =>
        have H := HC9.out
        clear HC9
        by_cases c11 : (wrap64 (bt a0 a1)) < 128
        · rw [if_pos c11] at H
          have c11b0 : decide ((wrap64 (bt a0 a1)) < 128) = true := decide_eq_true c11
          clear c11
          (first | rw [c11b0] | (simp only [i64_w, i32_w]; rw [c11b0]) | skip)
          have H' := Aside0.mk H
          clear H
          go_wp2
          go_meet
          case rel => exact ⟨_, (wrap64 (bt a0 a1)), (by first | rfl | (simp; done) | (simp [*]; done)), H', ⟨by first | omega | exact Nat.le_refl _⟩, ⟨by (with_reducible repeat (first | refine blk_drewN ?_ _ | refine blk_drew ?_ | refine blk_alloc ?_ _)); exact BK157.out⟩, ⟨by repeat (first | (with_reducible first | exact HB.out | apply below_alloc | apply pw_below_drewN | apply below_drew1 | refine below_set ?_ GE157.out) | exact HB.out)⟩⟩
        · rw [if_neg c11] at H
          have c11b0 : decide ((wrap64 (bt a0 a1)) < 128) = false := decide_eq_false c11
          clear c11
          (first | rw [c11b0] | (simp only [i64_w, i32_w]; rw [c11b0]) | skip)
          have HC12 := Aside0.mk H
          clear H
          go_upto_region 8 with (fail)
          go_cut [39] (fun v39 wc => ∃ (kq : Nat) (x39_11 : Bool), v39 = .bool x39_11 ∧ Aside0 (rectoref02_At.j0 kq a0 a1 (wrap64 (bt a0 a1)) t158 t159 t160 (-1) x39_11 = some (r1, r2, r3)) ∧ Aside0 (kq ≤ k) ∧ Aside0 (wc.heap[gb157]? = some (.cells #[.int .i64 0, .int .i64 0, .bool false] 28 (0, 0))) ∧ Aside0 (Below w.heap.size w wc))
          case first =>
            have H := HC12.out
            clear HC12
            by_cases c13 : (wrap64 (bt a0 a1)) ≥ 192
            · rw [if_pos c13] at H
              have c13b0 : decide (192 ≤ (wrap64 (bt a0 a1))) = true := decide_eq_true c13
              clear c13
              (first | rw [c13b0] | (simp only [i64_w, i32_w]; rw [c13b0]) | skip)
              by_cases c14 : (wrap64 (bt a0 a1)) < 224
              · rw [if_pos c14] at H
                have c14b0 : decide ((wrap64 (bt a0 a1)) < 224) = true := decide_eq_true c14
                clear c14
                have H' := Aside0.mk H
                clear H
                go_wp2
                go_meet
                case rel => exact ⟨_, (decide (t158 ≥ 0)), (by first | rfl | (simp; done) | (simp [*]; done)), H', ⟨by first | omega | exact Nat.le_refl _⟩, ⟨by (with_reducible repeat (first | refine blk_drewN ?_ _ | refine blk_drew ?_ | refine blk_alloc ?_ _)); exact BK157.out⟩, ⟨by repeat (first | (with_reducible first | exact HB.out | apply below_alloc | apply pw_below_drewN | apply below_drew1 | refine below_set ?_ GE157.out) | exact HB.out)⟩⟩
              · rw [if_neg c14] at H
                have c14b0 : decide ((wrap64 (bt a0 a1)) < 224) = false := decide_eq_false c14
                clear c14
                have H' := Aside0.mk H
                clear H
                go_wp2
                go_meet
                case rel => exact ⟨_, (false), (by first | rfl | (simp; done) | (simp [*]; done)), H', ⟨by first | omega | exact Nat.le_refl _⟩, ⟨by (with_reducible repeat (first | refine blk_drewN ?_ _ | refine blk_drew ?_ | refine blk_alloc ?_ _)); exact BK157.out⟩, ⟨by repeat (first | (with_reducible first | exact HB.out | apply below_alloc | apply pw_below_drewN | apply below_drew1 | refine below_set ?_ GE157.out) | exact HB.out)⟩⟩
            · rw [if_neg c13] at H
              have c13b0 : decide (192 ≤ (wrap64 (bt a0 a1))) = false := decide_eq_false c13
              clear c13
              (first | rw [c13b0] | (simp only [i64_w, i32_w]; rw [c13b0]) | skip)
              have H' := Aside0.mk H
              clear H
              go_wp2
              go_meet
              case rel => exact ⟨_, (false), (by first | rfl | (simp; done) | (simp [*]; done)), H', ⟨by first | omega | exact Nat.le_refl _⟩, ⟨by (with_reducible repeat (first | refine blk_drewN ?_ _ | refine blk_drew ?_ | refine blk_alloc ?_ _)); exact BK157.out⟩, ⟨by repeat (first | (with_reducible first | exact HB.out | apply below_alloc | apply pw_below_drewN | apply below_drew1 | refine below_set ?_ GE157.out) | exact HB.out)⟩⟩
          case rest =>
            clear HC12
            try clear c1
            try clear p2
            try clear c3
            try clear c3b0
            try clear c4
            try clear c4b0
            try clear c5
            try clear p5
            try clear q5
            try clear hx5
            try clear p6
            try clear c11
            try clear c11b0
            try clear c13
            try clear c13b0
            try clear c14
            try clear c14b0
            try clear p5
            try clear q5
            obtain ⟨kq, x39_11, rfl, HA, HJ11, BK157, HB⟩ := hcut
            cases kq with
            | zero => exact absurd HA.out (by simp [rectoref02_At.j0])
            | succ kj11 =>
              have H := HA.out
              clear HA
              simp only [rectoref02_At.j0] at H
              by_cases c15 : x39_11 = true
              · subst c15
                have H1 : (rectoref02_At.j2 kj11 a0 a1 (wrap64 ((wrap64 (64 * (wrap64 ((wrap64 (bt a0 a1)) - 192)))) + t158))) = some (r1, r2, r3) := by rw [if_pos rfl] at H; exact H
                clear H
                have H := H1
                clear H1
                have H' := Aside0.mk H
                clear H
                go_wp2
                go_meet
                case rel => exact ⟨_, (wrap64 ((wrap64 (64 * (wrap64 ((wrap64 (bt a0 a1)) - 192)))) + t158)), (by first | rfl | (simp; done) | (simp [*]; done)), H', ⟨by have := HJ11.out; first | omega | exact Nat.le_refl _⟩, ⟨by (with_reducible repeat (first | refine blk_drewN ?_ _ | refine blk_drew ?_ | refine blk_alloc ?_ _)); exact BK157.out⟩, ⟨by repeat (first | (with_reducible first | exact HB.out | apply below_alloc | apply pw_below_drewN | apply below_drew1 | refine below_set ?_ GE157.out) | exact HB.out)⟩⟩
              · replace c15 := Bool.eq_false_iff.mpr c15
                subst c15
                have H1 : (if (wrap64 (bt a0 a1)) ≥ 224 then (if (wrap64 (bt a0 a1)) < 240 then (if t158 ≥ 0 then (rectoref02_At.j1 kj11 a0 a1 (wrap64 (bt a0 a1)) t158 t159 t160 (-1) (decide (t159 ≥ 0))) else (rectoref02_At.j1 kj11 a0 a1 (wrap64 (bt a0 a1)) t158 t159 t160 (-1) false)) else (rectoref02_At.j1 kj11 a0 a1 (wrap64 (bt a0 a1)) t158 t159 t160 (-1) false)) else (rectoref02_At.j1 kj11 a0 a1 (wrap64 (bt a0 a1)) t158 t159 t160 (-1) false)) = some (r1, r2, r3) := by rw [if_neg (show ¬ (false = true) by decide)] at H; exact H
                clear H
                have H := H1
                clear H1
                have HC16 := Aside0.mk H
                clear H
                go_upto_region 10 with (fail)
                go_cut [58] (fun v58 wc => ∃ (kq : Nat) (x58_15 : Bool), v58 = .bool x58_15 ∧ Aside0 (rectoref02_At.j1 kq a0 a1 (wrap64 (bt a0 a1)) t158 t159 t160 (-1) x58_15 = some (r1, r2, r3)) ∧ Aside0 (kq ≤ kj11) ∧ Aside0 (wc.heap[gb157]? = some (.cells #[.int .i64 0, .int .i64 0, .bool false] 28 (0, 0))) ∧ Aside0 (Below w.heap.size w wc))
                case first =>
                  have H := HC16.out
                  clear HC16
                  by_cases c17 : (wrap64 (bt a0 a1)) ≥ 224
                  · rw [if_pos c17] at H
                    have c17b0 : decide (224 ≤ (wrap64 (bt a0 a1))) = true := decide_eq_true c17
                    clear c17
                    (first | rw [c17b0] | (simp only [i64_w, i32_w]; rw [c17b0]) | skip)
                    by_cases c18 : (wrap64 (bt a0 a1)) < 240
                    · rw [if_pos c18] at H
                      have c18b0 : decide ((wrap64 (bt a0 a1)) < 240) = true := decide_eq_true c18
                      clear c18
                      by_cases c19 : t158 ≥ 0
                      · rw [if_pos c19] at H
                        have c19b0 : decide (0 ≤ t158) = true := decide_eq_true c19
                        clear c19
                        have H' := Aside0.mk H
                        clear H
                        go_wp2
                        go_meet
                        case rel => exact ⟨_, (decide (t159 ≥ 0)), (by first | rfl | (simp; done) | (simp [*]; done)), H', ⟨by have := HJ11.out; first | omega | exact Nat.le_refl _⟩, ⟨by (with_reducible repeat (first | refine blk_drewN ?_ _ | refine blk_drew ?_ | refine blk_alloc ?_ _)); exact BK157.out⟩, ⟨by repeat (first | (with_reducible first | exact HB.out | apply below_alloc | apply pw_below_drewN | apply below_drew1 | refine below_set ?_ GE157.out) | exact HB.out)⟩⟩
                      · rw [if_neg c19] at H
                        have c19b0 : decide (0 ≤ t158) = false := decide_eq_false c19
                        clear c19
                        have H' := Aside0.mk H
                        clear H
                        go_wp2
                        go_meet
                        case rel => exact ⟨_, (false), (by first | rfl | (simp; done) | (simp [*]; done)), H', ⟨by have := HJ11.out; first | omega | exact Nat.le_refl _⟩, ⟨by (with_reducible repeat (first | refine blk_drewN ?_ _ | refine blk_drew ?_ | refine blk_alloc ?_ _)); exact BK157.out⟩, ⟨by repeat (first | (with_reducible first | exact HB.out | apply below_alloc | apply pw_below_drewN | apply below_drew1 | refine below_set ?_ GE157.out) | exact HB.out)⟩⟩
                    · rw [if_neg c18] at H
                      have c18b0 : decide ((wrap64 (bt a0 a1)) < 240) = false := decide_eq_false c18
                      clear c18
                      have H' := Aside0.mk H
                      clear H
                      go_wp2
                      go_meet
                      case rel => exact ⟨_, (false), (by first | rfl | (simp; done) | (simp [*]; done)), H', ⟨by have := HJ11.out; first | omega | exact Nat.le_refl _⟩, ⟨by (with_reducible repeat (first | refine blk_drewN ?_ _ | refine blk_drew ?_ | refine blk_alloc ?_ _)); exact BK157.out⟩, ⟨by repeat (first | (with_reducible first | exact HB.out | apply below_alloc | apply pw_below_drewN | apply below_drew1 | refine below_set ?_ GE157.out) | exact HB.out)⟩⟩
                  · rw [if_neg c17] at H
                    have c17b0 : decide (224 ≤ (wrap64 (bt a0 a1))) = false := decide_eq_false c17
                    clear c17
                    (first | rw [c17b0] | (simp only [i64_w, i32_w]; rw [c17b0]) | skip)
                    have H' := Aside0.mk H
                    clear H
                    go_wp2
                    go_meet
                    case rel => exact ⟨_, (false), (by first | rfl | (simp; done) | (simp [*]; done)), H', ⟨by have := HJ11.out; first | omega | exact Nat.le_refl _⟩, ⟨by (with_reducible repeat (first | refine blk_drewN ?_ _ | refine blk_drew ?_ | refine blk_alloc ?_ _)); exact BK157.out⟩, ⟨by repeat (first | (with_reducible first | exact HB.out | apply below_alloc | apply pw_below_drewN | apply below_drew1 | refine below_set ?_ GE157.out) | exact HB.out)⟩⟩
                case rest =>
                  clear HC16
                  try clear c1
                  try clear p2
                  try clear c3
                  try clear c3b0
                  try clear c4
                  try clear c4b0
                  try clear c5
                  try clear p5
                  try clear q5
                  try clear hx5
                  try clear p6
                  try clear c11
                  try clear c11b0
                  try clear c13
                  try clear c13b0
                  try clear c14
                  try clear c14b0
                  try clear c15
                  try clear c17
                  try clear c17b0
                  try clear c18
                  try clear c18b0
                  try clear c19
                  try clear c19b0
                  try clear p2
                  try clear p5
                  try clear p6
                  try clear q5
                  obtain ⟨kq, x58_15, rfl, HA, HJ15, BK157, HB⟩ := hcut
                  cases kq with
                  | zero => exact absurd HA.out (by simp [rectoref02_At.j1])
                  | succ kj15 =>
                    have H := HA.out
                    clear HA
                    simp only [rectoref02_At.j1] at H
                    by_cases c20 : x58_15 = true
                    · subst c20
                      have H1 : (rectoref02_At.j2 kj15 a0 a1 (wrap64 ((wrap64 ((wrap64 (4096 * (wrap64 ((wrap64 (bt a0 a1)) - 224)))) + (wrap64 (64 * t158)))) + t159))) = some (r1, r2, r3) := by rw [if_pos rfl] at H; exact H
                      clear H
                      have H := H1
                      clear H1
                      have H' := Aside0.mk H
                      clear H
                      go_wp2
                      go_meet
                      case rel => exact ⟨_, (wrap64 ((wrap64 ((wrap64 (4096 * (wrap64 ((wrap64 (bt a0 a1)) - 224)))) + (wrap64 (64 * t158)))) + t159)), (by first | rfl | (simp; done) | (simp [*]; done)), H', ⟨by have := HJ11.out; have := HJ15.out; first | omega | exact Nat.le_refl _⟩, ⟨by (with_reducible repeat (first | refine blk_drewN ?_ _ | refine blk_drew ?_ | refine blk_alloc ?_ _)); exact BK157.out⟩, ⟨by repeat (first | (with_reducible first | exact HB.out | apply below_alloc | apply pw_below_drewN | apply below_drew1 | refine below_set ?_ GE157.out) | exact HB.out)⟩⟩
                    · replace c20 := Bool.eq_false_iff.mpr c20
                      subst c20
                      have H1 : (if (wrap64 (bt a0 a1)) ≥ 240 then (if (wrap64 (bt a0 a1)) < 248 then (if t158 ≥ 0 then (if t159 ≥ 0 then (if t160 ≥ 0 then (rectoref02_At.j2 kj15 a0 a1 (wrap64 ((wrap64 ((wrap64 ((wrap64 (262144 * (wrap64 ((wrap64 (bt a0 a1)) - 240)))) + (wrap64 (4096 * t158)))) + (wrap64 (64 * t159)))) + t160))) else (rectoref02_At.j2 kj15 a0 a1 (-1))) else (rectoref02_At.j2 kj15 a0 a1 (-1))) else (rectoref02_At.j2 kj15 a0 a1 (-1))) else (rectoref02_At.j2 kj15 a0 a1 (-1))) else (rectoref02_At.j2 kj15 a0 a1 (-1))) = some (r1, r2, r3) := by rw [if_neg (show ¬ (false = true) by decide)] at H; exact H
                      clear H
                      have H := H1
                      clear H1
                      by_cases c21 : (wrap64 (bt a0 a1)) ≥ 240
                      · rw [if_pos c21] at H
                        have c21b0 : decide (240 ≤ (wrap64 (bt a0 a1))) = true := decide_eq_true c21
                        clear c21
                        by_cases c22 : (wrap64 (bt a0 a1)) < 248
                        · rw [if_pos c22] at H
                          have c22b0 : decide ((wrap64 (bt a0 a1)) < 248) = true := decide_eq_true c22
                          clear c22
                          by_cases c23 : t158 ≥ 0
                          · rw [if_pos c23] at H
                            have c23b0 : decide (0 ≤ t158) = true := decide_eq_true c23
                            clear c23
                            by_cases c24 : t159 ≥ 0
                            · rw [if_pos c24] at H
                              have c24b0 : decide (0 ≤ t159) = true := decide_eq_true c24
                              clear c24
                              by_cases c25 : t160 ≥ 0
                              · rw [if_pos c25] at H
                                have c25b0 : decide (0 ≤ t160) = true := decide_eq_true c25
                                clear c25
                                have H' := Aside0.mk H
                                clear H
                                go_wp2
                                go_meet
                                case rel => exact ⟨_, (wrap64 ((wrap64 ((wrap64 ((wrap64 (262144 * (wrap64 ((wrap64 (bt a0 a1)) - 240)))) + (wrap64 (4096 * t158)))) + (wrap64 (64 * t159)))) + t160)), (by first | rfl | (simp; done) | (simp [*]; done)), H', ⟨by have := HJ11.out; have := HJ15.out; first | omega | exact Nat.le_refl _⟩, ⟨by (with_reducible repeat (first | refine blk_drewN ?_ _ | refine blk_drew ?_ | refine blk_alloc ?_ _)); exact BK157.out⟩, ⟨by repeat (first | (with_reducible first | exact HB.out | apply below_alloc | apply pw_below_drewN | apply below_drew1 | refine below_set ?_ GE157.out) | exact HB.out)⟩⟩
                              · rw [if_neg c25] at H
                                have c25b0 : decide (0 ≤ t160) = false := decide_eq_false c25
                                clear c25
                                have H' := Aside0.mk H
                                clear H
                                go_wp2
                                go_meet
                                case rel => exact ⟨_, ((-1)), (by first | rfl | (simp; done) | (simp [*]; done)), H', ⟨by have := HJ11.out; have := HJ15.out; first | omega | exact Nat.le_refl _⟩, ⟨by (with_reducible repeat (first | refine blk_drewN ?_ _ | refine blk_drew ?_ | refine blk_alloc ?_ _)); exact BK157.out⟩, ⟨by repeat (first | (with_reducible first | exact HB.out | apply below_alloc | apply pw_below_drewN | apply below_drew1 | refine below_set ?_ GE157.out) | exact HB.out)⟩⟩
                            · rw [if_neg c24] at H
                              have c24b0 : decide (0 ≤ t159) = false := decide_eq_false c24
                              clear c24
                              have H' := Aside0.mk H
                              clear H
                              go_wp2
                              go_meet
                              case rel => exact ⟨_, ((-1)), (by first | rfl | (simp; done) | (simp [*]; done)), H', ⟨by have := HJ11.out; have := HJ15.out; first | omega | exact Nat.le_refl _⟩, ⟨by (with_reducible repeat (first | refine blk_drewN ?_ _ | refine blk_drew ?_ | refine blk_alloc ?_ _)); exact BK157.out⟩, ⟨by repeat (first | (with_reducible first | exact HB.out | apply below_alloc | apply pw_below_drewN | apply below_drew1 | refine below_set ?_ GE157.out) | exact HB.out)⟩⟩
                          · rw [if_neg c23] at H
                            have c23b0 : decide (0 ≤ t158) = false := decide_eq_false c23
                            clear c23
                            have H' := Aside0.mk H
                            clear H
                            go_wp2
                            go_meet
                            case rel => exact ⟨_, ((-1)), (by first | rfl | (simp; done) | (simp [*]; done)), H', ⟨by have := HJ11.out; have := HJ15.out; first | omega | exact Nat.le_refl _⟩, ⟨by (with_reducible repeat (first | refine blk_drewN ?_ _ | refine blk_drew ?_ | refine blk_alloc ?_ _)); exact BK157.out⟩, ⟨by repeat (first | (with_reducible first | exact HB.out | apply below_alloc | apply pw_below_drewN | apply below_drew1 | refine below_set ?_ GE157.out) | exact HB.out)⟩⟩
                        · rw [if_neg c22] at H
                          have c22b0 : decide ((wrap64 (bt a0 a1)) < 248) = false := decide_eq_false c22
                          clear c22
                          have H' := Aside0.mk H
                          clear H
                          go_wp2
                          go_meet
                          case rel => exact ⟨_, ((-1)), (by first | rfl | (simp; done) | (simp [*]; done)), H', ⟨by have := HJ11.out; have := HJ15.out; first | omega | exact Nat.le_refl _⟩, ⟨by (with_reducible repeat (first | refine blk_drewN ?_ _ | refine blk_drew ?_ | refine blk_alloc ?_ _)); exact BK157.out⟩, ⟨by repeat (first | (with_reducible first | exact HB.out | apply below_alloc | apply pw_below_drewN | apply below_drew1 | refine below_set ?_ GE157.out) | exact HB.out)⟩⟩
                      · rw [if_neg c21] at H
                        have c21b0 : decide (240 ≤ (wrap64 (bt a0 a1))) = false := decide_eq_false c21
                        clear c21
                        have H' := Aside0.mk H
                        clear H
                        go_wp2
                        go_meet
                        case rel => exact ⟨_, ((-1)), (by first | rfl | (simp; done) | (simp [*]; done)), H', ⟨by have := HJ11.out; have := HJ15.out; first | omega | exact Nat.le_refl _⟩, ⟨by (with_reducible repeat (first | refine blk_drewN ?_ _ | refine blk_drew ?_ | refine blk_alloc ?_ _)); exact BK157.out⟩, ⟨by repeat (first | (with_reducible first | exact HB.out | apply below_alloc | apply pw_below_drewN | apply below_drew1 | refine below_set ?_ GE157.out) | exact HB.out)⟩⟩
      case rest =>
        clear HC9
        try clear c1
        try clear c2
        try clear p2
        try clear c3
        try clear c3b0
        try clear c4
        try clear c4b0
        try clear c5
        try clear p5
        try clear q5
        try clear hx5
        try clear p6
        try clear c11
        try clear c11b0
        try clear c13
        try clear c13b0
        try clear c14
        try clear c14b0
        try clear c15
        try clear c17
        try clear c17b0
        try clear c18
        try clear c18b0
        try clear c19
        try clear c19b0
        try clear c20
        try clear c21
        try clear c21b0
        try clear c22
        try clear c22b0
        try clear c23
        try clear c23b0
        try clear c24
        try clear c24b0
        try clear c25
        try clear c25b0
        try clear p2
        try clear p5
        try clear p6
        try clear q5
        obtain ⟨kq, x9_8, rfl, HA, HJ8, BK157, HB⟩ := hcut
        cases kq with
        | zero => exact absurd HA.out (by simp [rectoref02_At.j2])
        | succ kj8 =>
          have H := HA.out
          clear HA
          simp only [rectoref02_At.j2] at H
          replace H := Option.bind_eq_some_iff.mp H
          obtain ⟨t161, A260, H⟩ := H
          replace H : (if t161 = true then ((rectoref02_Bytes.f kj8 x9_8).bind fun t162 => (if (wrap64 ((a0.size : Int) - a1)) < (t162.size : Int) then (some (65533, 1, false)) else (if 0 ≤ a1 then (if a1 ≤ (wrap64 (a1 + (t162.size : Int))) then (if (wrap64 (a1 + (t162.size : Int))) ≤ (a0.size : Int) then (if (a0.extract (a1 : Int).toNat ((wrap64 (a1 + (t162.size : Int))) : Int).toNat).toList = t162.toList then (some (x9_8, (t162.size : Int), true)) else (some (65533, 1, false))) else (none)) else (none)) else (none)))) else (some (65533, 1, false))) = some (r1, r2, r3) := H
          have A26 := Aside0.mk A260
          clear A260
          by_cases c27 : t161 = true
          · subst c27
            have H1 : ((rectoref02_Bytes.f kj8 x9_8).bind fun t162 => (if (wrap64 ((a0.size : Int) - a1)) < (t162.size : Int) then (some (65533, 1, false)) else (if 0 ≤ a1 then (if a1 ≤ (wrap64 (a1 + (t162.size : Int))) then (if (wrap64 (a1 + (t162.size : Int))) ≤ (a0.size : Int) then (if (a0.extract (a1 : Int).toNat ((wrap64 (a1 + (t162.size : Int))) : Int).toNat).toList = t162.toList then (some (x9_8, (t162.size : Int), true)) else (some (65533, 1, false))) else (none)) else (none)) else (none)))) = some (r1, r2, r3) := by rw [if_pos rfl] at H; exact H
            clear H
            have H := H1
            clear H1
            replace H := Option.bind_eq_some_iff.mp H
            obtain ⟨t162, A280, H⟩ := H
            replace H : (if (wrap64 ((a0.size : Int) - a1)) < (t162.size : Int) then (some (65533, 1, false)) else (if 0 ≤ a1 then (if a1 ≤ (wrap64 (a1 + (t162.size : Int))) then (if (wrap64 (a1 + (t162.size : Int))) ≤ (a0.size : Int) then (if (a0.extract (a1 : Int).toNat ((wrap64 (a1 + (t162.size : Int))) : Int).toNat).toList = t162.toList then (some (x9_8, (t162.size : Int), true)) else (some (65533, 1, false))) else (none)) else (none)) else (none))) = some (r1, r2, r3) := H
            have A28 := Aside0.mk A280
            clear A280
            by_cases c29 : (wrap64 ((a0.size : Int) - a1)) < (t162.size : Int)
            · rw [if_pos c29] at H
              have c29b0 : decide ((wrap64 ((a0.size : Int) - a1)) < (t162.size : Int)) = true := decide_eq_true c29
              clear c29
              simp only [Option.some.injEq, Prod.mk.injEq] at H
              obtain ⟨rfl, rfl, rfl⟩ := H
              go_wp2_with (first | ((with_reducible refine gate_callee (f := 19) rfl ?_); refine goesL_ (some 97) rfl rfl Tryd.func19 (by kernel_rfl) rfl #[.int .i64 x9_8] rfl (by (try simp only [List.map_toArray, List.map_cons, List.map_nil]); first | done | rfl | (simp only [List.length_drop, List.length_take]; rfl)) ?_; (with_reducible refine (rectoref02_Is.calls x9_8 true _ A26.out ?side1).mono ?_); (case side1 => exact Aside0.mk (Laid.below HG.out (by repeat (first | (with_reducible first | exact HB.out | apply below_alloc | apply pw_below_drewN | apply below_drew1 | refine below_set ?_ GE157.out) | exact HB.out)))); rintro e w' ⟨rfl, ⟨nd, rfl⟩⟩; refine ⟨_, rfl, ?_⟩; (try (rw [drewN_self wc]; generalize hq_ : World.drewN wc _ = wc; have n0_ : Aside0 (wc.heap[gb157]? = some (.cells #[.int .i64 0, .int .i64 0, .bool false] 28 (0, 0))) := ⟨by rw [← hq_]; exact (by (with_reducible repeat (first | refine blk_drewN ?_ _ | refine blk_drew ?_ | refine blk_alloc ?_ _)); exact BK157.out)⟩; have n1_ : Aside0 (Below w.heap.size w wc) := ⟨by rw [← hq_]; exact (by repeat (first | (with_reducible first | exact HB.out | apply below_alloc | apply pw_below_drewN | apply below_drew1 | refine below_set ?_ GE157.out) | exact HB.out))⟩; clear BK157 HB hq_; have BK157 := n0_; have HB := n1_; clear n0_ n1_))) | ((with_reducible refine gate_callee (f := 15) rfl ?_); refine goesL_ (some 101) rfl rfl Tryd.func15 (by kernel_rfl) rfl #[.int .i64 x9_8] rfl (by (try simp only [List.map_toArray, List.map_cons, List.map_nil]); first | done | rfl | (simp only [List.length_drop, List.length_take]; rfl)) ?_; (with_reducible refine (rectoref02_Bytes.calls kj8 x9_8 t162 _ A28.out ?side1).mono ?_); (case side1 => exact Aside0.mk (Laid.below HG.out (by repeat (first | (with_reducible first | exact HB.out | apply below_alloc | apply pw_below_drewN | apply below_drew1 | refine below_set ?_ GE157.out) | exact HB.out)))); rintro e w30 ⟨rfl, hb⟩; refine ⟨_, rfl, ?_⟩; have n0_ := Aside0.mk (blk_below (g := gb157) (o := .cells #[.int .i64 0, .int .i64 0, .bool false] 28 (0, 0)) (by (with_reducible repeat (first | refine blk_drewN ?_ _ | refine blk_drew ?_ | refine blk_alloc ?_ _)); exact BK157.out) hb); have n1_ := Aside0.mk (below_step (by repeat (first | (with_reducible first | exact HB.out | apply below_alloc | apply pw_below_drewN | apply below_drew1 | refine below_set ?_ GE157.out) | exact HB.out)) hb); clear BK157; clear HB; have BK157 := n0_; have HB := n1_; clear n0_ n1_; (try clear hb); (try clear hb2); (try clear hk); (try clear hi); have hcz31_0 : w30.cell? ⟨gb157, 0, none⟩ = some (.int .i64 0) := (blk_cell BK157.out 0).trans rfl; have hcz31_1 : w30.cell? ⟨gb157, 1, none⟩ = some (.int .i64 0) := (blk_cell BK157.out 1).trans rfl; have hcz31_2 : w30.cell? ⟨gb157, 2, none⟩ = some (.bool false) := (blk_cell BK157.out 2).trans rfl; have hfz31_0 := blk_frozen BK157.out 0; have hfz31_1 := blk_frozen BK157.out 1; have hfz31_2 := blk_frozen BK157.out 2))
              refine bodyPost_ret (results_cell_row rfl _ _ gb157 28 #[.int .i64 65533, .int .i64 1, .bool false] (0, 0) _ rfl (by (with_reducible repeat (first | refine blk_drewN ?_ _ | refine blk_drew ?_ | refine blk_alloc ?_ _)); refine blk_put (cs := #[.int .i64 65533, .int .i64 1, .bool false]) ?_ 2 _ (by first | rfl | (simp only [*]; done) | (simp only [*]; rfl)); (with_reducible repeat (first | refine blk_drewN ?_ _ | refine blk_drew ?_ | refine blk_alloc ?_ _)); refine blk_put (cs := #[.int .i64 65533, .int .i64 0, .bool false]) ?_ 1 _ (by first | rfl | (simp only [*]; done) | (simp only [*]; rfl)); (with_reducible repeat (first | refine blk_drewN ?_ _ | refine blk_drew ?_ | refine blk_alloc ?_ _)); refine blk_put (cs := #[.int .i64 0, .int .i64 0, .bool false]) ?_ 0 _ (by first | rfl | (simp only [*]; done) | (simp only [*]; rfl)); (with_reducible repeat (first | refine blk_drewN ?_ _ | refine blk_drew ?_ | refine blk_alloc ?_ _)); exact BK157.out) Tryd.underlying28 rfl (by kernel_rfl)) rfl ?_
              exact ⟨by first | rfl | (simp [errW_none, errW_some] <;> rfl) | (simp [*, errW_none, errW_some] <;> rfl), by repeat (first | (with_reducible first | exact HB.out | apply below_alloc | apply pw_below_drewN | apply below_drew1 | refine below_set ?_ GE157.out) | exact HB.out)⟩
            · rw [if_neg c29] at H
              have c29b0 : decide ((wrap64 ((a0.size : Int) - a1)) < (t162.size : Int)) = false := decide_eq_false c29
              clear c29
              by_cases c32 : 0 ≤ a1
              · rw [if_pos c32] at H
                have c32b0 := eq_true c32
                have c32b1 : decide (0 ≤ a1) = true := decide_eq_true c32
                clear c32
                by_cases c33 : a1 ≤ (wrap64 (a1 + (t162.size : Int)))
                · rw [if_pos c33] at H
                  have c33b0 := eq_true c33
                  have c33b1 : decide (a1 ≤ (wrap64 (a1 + (t162.size : Int)))) = true := decide_eq_true c33
                  by_cases c34 : (wrap64 (a1 + (t162.size : Int))) ≤ (a0.size : Int)
                  · rw [if_pos c34] at H
                    have c34b0 := eq_true c34
                    have c34b1 : decide ((wrap64 (a1 + (t162.size : Int))) ≤ (a0.size : Int)) = true := decide_eq_true c34
                    by_cases c35 : (a0.extract (a1 : Int).toNat ((wrap64 (a1 + (t162.size : Int))) : Int).toNat).toList = t162.toList
                    · rw [if_pos c35] at H
                      have c35b0 : ((a0.extract (a1 : Int).toNat ((wrap64 (a1 + (t162.size : Int))) : Int).toNat).toList == t162.toList) = true := beq_iff_eq.mpr c35
                      (try simp only [ByteArray.size_extract, Nat.min_self] at c35b0)
                      have c35b1 : ((a0.extract (a1 : Int).toNat ((wrap64 (a1 + (t162.size : Int))) : Int).toNat).toList != t162.toList) = false := bne_eq_false_iff_eq.mpr c35
                      (try simp only [ByteArray.size_extract, Nat.min_self] at c35b1)
                      clear c35
                      simp only [Option.some.injEq, Prod.mk.injEq] at H
                      obtain ⟨rfl, rfl, rfl⟩ := H
                      go_wp2_with (first | ((with_reducible refine gate_callee (f := 19) rfl ?_); refine goesL_ (some 97) rfl rfl Tryd.func19 (by kernel_rfl) rfl #[.int .i64 x9_8] rfl (by (try simp only [List.map_toArray, List.map_cons, List.map_nil]); first | done | rfl | (simp only [List.length_drop, List.length_take]; rfl)) ?_; (with_reducible refine (rectoref02_Is.calls x9_8 true _ A26.out ?side1).mono ?_); (case side1 => exact Aside0.mk (Laid.below HG.out (by repeat (first | (with_reducible first | exact HB.out | apply below_alloc | apply pw_below_drewN | apply below_drew1 | refine below_set ?_ GE157.out) | exact HB.out)))); rintro e w' ⟨rfl, ⟨nd, rfl⟩⟩; refine ⟨_, rfl, ?_⟩; (try (rw [drewN_self wc]; generalize hq_ : World.drewN wc _ = wc; have n0_ : Aside0 (wc.heap[gb157]? = some (.cells #[.int .i64 0, .int .i64 0, .bool false] 28 (0, 0))) := ⟨by rw [← hq_]; exact (by (with_reducible repeat (first | refine blk_drewN ?_ _ | refine blk_drew ?_ | refine blk_alloc ?_ _)); exact BK157.out)⟩; have n1_ : Aside0 (Below w.heap.size w wc) := ⟨by rw [← hq_]; exact (by repeat (first | (with_reducible first | exact HB.out | apply below_alloc | apply pw_below_drewN | apply below_drew1 | refine below_set ?_ GE157.out) | exact HB.out))⟩; clear BK157 HB hq_; have BK157 := n0_; have HB := n1_; clear n0_ n1_))) | ((with_reducible refine gate_callee (f := 15) rfl ?_); refine goesL_ (some 101) rfl rfl Tryd.func15 (by kernel_rfl) rfl #[.int .i64 x9_8] rfl (by (try simp only [List.map_toArray, List.map_cons, List.map_nil]); first | done | rfl | (simp only [List.length_drop, List.length_take]; rfl)) ?_; (with_reducible refine (rectoref02_Bytes.calls kj8 x9_8 t162 _ A28.out ?side1).mono ?_); (case side1 => exact Aside0.mk (Laid.below HG.out (by repeat (first | (with_reducible first | exact HB.out | apply below_alloc | apply pw_below_drewN | apply below_drew1 | refine below_set ?_ GE157.out) | exact HB.out)))); rintro e w36 ⟨rfl, hb⟩; refine ⟨_, rfl, ?_⟩; have n0_ := Aside0.mk (blk_below (g := gb157) (o := .cells #[.int .i64 0, .int .i64 0, .bool false] 28 (0, 0)) (by (with_reducible repeat (first | refine blk_drewN ?_ _ | refine blk_drew ?_ | refine blk_alloc ?_ _)); exact BK157.out) hb); have n1_ := Aside0.mk (below_step (by repeat (first | (with_reducible first | exact HB.out | apply below_alloc | apply pw_below_drewN | apply below_drew1 | refine below_set ?_ GE157.out) | exact HB.out)) hb); clear BK157; clear HB; have BK157 := n0_; have HB := n1_; clear n0_ n1_; (try clear hb); (try clear hb2); (try clear hk); (try clear hi); have hcz37_0 : w36.cell? ⟨gb157, 0, none⟩ = some (.int .i64 0) := (blk_cell BK157.out 0).trans rfl; have hcz37_1 : w36.cell? ⟨gb157, 1, none⟩ = some (.int .i64 0) := (blk_cell BK157.out 1).trans rfl; have hcz37_2 : w36.cell? ⟨gb157, 2, none⟩ = some (.bool false) := (blk_cell BK157.out 2).trans rfl; have hfz37_0 := blk_frozen BK157.out 0; have hfz37_1 := blk_frozen BK157.out 1; have hfz37_2 := blk_frozen BK157.out 2))
                      refine bodyPost_ret (results_cell_row rfl _ _ gb157 28 #[.int .i64 x9_8, .int .i64 (t162.size : Int), .bool true] (0, 0) _ rfl (by (with_reducible repeat (first | refine blk_drewN ?_ _ | refine blk_drew ?_ | refine blk_alloc ?_ _)); refine blk_put (cs := #[.int .i64 x9_8, .int .i64 (t162.size : Int), .bool false]) ?_ 2 _ (by first | rfl | (simp only [*]; done) | (simp only [*]; rfl)); (with_reducible repeat (first | refine blk_drewN ?_ _ | refine blk_drew ?_ | refine blk_alloc ?_ _)); refine blk_put (cs := #[.int .i64 x9_8, .int .i64 0, .bool false]) ?_ 1 _ (by first | rfl | (simp only [*]; done) | (simp only [*]; rfl)); (with_reducible repeat (first | refine blk_drewN ?_ _ | refine blk_drew ?_ | refine blk_alloc ?_ _)); refine blk_put (cs := #[.int .i64 0, .int .i64 0, .bool false]) ?_ 0 _ (by first | rfl | (simp only [*]; done) | (simp only [*]; rfl)); (with_reducible repeat (first | refine blk_drewN ?_ _ | refine blk_drew ?_ | refine blk_alloc ?_ _)); exact BK157.out) Tryd.underlying28 rfl (by kernel_rfl)) rfl ?_
                      exact ⟨by first | rfl | (simp [errW_none, errW_some] <;> rfl) | (simp [*, errW_none, errW_some] <;> rfl), by repeat (first | (with_reducible first | exact HB.out | apply below_alloc | apply pw_below_drewN | apply below_drew1 | refine below_set ?_ GE157.out) | exact HB.out)⟩
                    · rw [if_neg c35] at H
                      have c35b0 : ((a0.extract (a1 : Int).toNat ((wrap64 (a1 + (t162.size : Int))) : Int).toNat).toList == t162.toList) = false := beq_eq_false_iff_ne.mpr c35
                      (try simp only [ByteArray.size_extract, Nat.min_self] at c35b0)
                      have c35b1 : ((a0.extract (a1 : Int).toNat ((wrap64 (a1 + (t162.size : Int))) : Int).toNat).toList != t162.toList) = true := bne_iff_ne.mpr c35
                      (try simp only [ByteArray.size_extract, Nat.min_self] at c35b1)
                      simp only [Option.some.injEq, Prod.mk.injEq] at H
                      obtain ⟨rfl, rfl, rfl⟩ := H
                      go_wp2_with (first | ((with_reducible refine gate_callee (f := 19) rfl ?_); refine goesL_ (some 97) rfl rfl Tryd.func19 (by kernel_rfl) rfl #[.int .i64 x9_8] rfl (by (try simp only [List.map_toArray, List.map_cons, List.map_nil]); first | done | rfl | (simp only [List.length_drop, List.length_take]; rfl)) ?_; (with_reducible refine (rectoref02_Is.calls x9_8 true _ A26.out ?side1).mono ?_); (case side1 => exact Aside0.mk (Laid.below HG.out (by repeat (first | (with_reducible first | exact HB.out | apply below_alloc | apply pw_below_drewN | apply below_drew1 | refine below_set ?_ GE157.out) | exact HB.out)))); rintro e w' ⟨rfl, ⟨nd, rfl⟩⟩; refine ⟨_, rfl, ?_⟩; (try (rw [drewN_self wc]; generalize hq_ : World.drewN wc _ = wc; have n0_ : Aside0 (wc.heap[gb157]? = some (.cells #[.int .i64 0, .int .i64 0, .bool false] 28 (0, 0))) := ⟨by rw [← hq_]; exact (by (with_reducible repeat (first | refine blk_drewN ?_ _ | refine blk_drew ?_ | refine blk_alloc ?_ _)); exact BK157.out)⟩; have n1_ : Aside0 (Below w.heap.size w wc) := ⟨by rw [← hq_]; exact (by repeat (first | (with_reducible first | exact HB.out | apply below_alloc | apply pw_below_drewN | apply below_drew1 | refine below_set ?_ GE157.out) | exact HB.out))⟩; clear BK157 HB hq_; have BK157 := n0_; have HB := n1_; clear n0_ n1_))) | ((with_reducible refine gate_callee (f := 15) rfl ?_); refine goesL_ (some 101) rfl rfl Tryd.func15 (by kernel_rfl) rfl #[.int .i64 x9_8] rfl (by (try simp only [List.map_toArray, List.map_cons, List.map_nil]); first | done | rfl | (simp only [List.length_drop, List.length_take]; rfl)) ?_; (with_reducible refine (rectoref02_Bytes.calls kj8 x9_8 t162 _ A28.out ?side1).mono ?_); (case side1 => exact Aside0.mk (Laid.below HG.out (by repeat (first | (with_reducible first | exact HB.out | apply below_alloc | apply pw_below_drewN | apply below_drew1 | refine below_set ?_ GE157.out) | exact HB.out)))); rintro e w38 ⟨rfl, hb⟩; refine ⟨_, rfl, ?_⟩; have n0_ := Aside0.mk (blk_below (g := gb157) (o := .cells #[.int .i64 0, .int .i64 0, .bool false] 28 (0, 0)) (by (with_reducible repeat (first | refine blk_drewN ?_ _ | refine blk_drew ?_ | refine blk_alloc ?_ _)); exact BK157.out) hb); have n1_ := Aside0.mk (below_step (by repeat (first | (with_reducible first | exact HB.out | apply below_alloc | apply pw_below_drewN | apply below_drew1 | refine below_set ?_ GE157.out) | exact HB.out)) hb); clear BK157; clear HB; have BK157 := n0_; have HB := n1_; clear n0_ n1_; (try clear hb); (try clear hb2); (try clear hk); (try clear hi); have hcz39_0 : w38.cell? ⟨gb157, 0, none⟩ = some (.int .i64 0) := (blk_cell BK157.out 0).trans rfl; have hcz39_1 : w38.cell? ⟨gb157, 1, none⟩ = some (.int .i64 0) := (blk_cell BK157.out 1).trans rfl; have hcz39_2 : w38.cell? ⟨gb157, 2, none⟩ = some (.bool false) := (blk_cell BK157.out 2).trans rfl; have hfz39_0 := blk_frozen BK157.out 0; have hfz39_1 := blk_frozen BK157.out 1; have hfz39_2 := blk_frozen BK157.out 2))
                      refine bodyPost_ret (results_cell_row rfl _ _ gb157 28 #[.int .i64 65533, .int .i64 1, .bool false] (0, 0) _ rfl (by (with_reducible repeat (first | refine blk_drewN ?_ _ | refine blk_drew ?_ | refine blk_alloc ?_ _)); refine blk_put (cs := #[.int .i64 65533, .int .i64 1, .bool false]) ?_ 2 _ (by first | rfl | (simp only [*]; done) | (simp only [*]; rfl)); (with_reducible repeat (first | refine blk_drewN ?_ _ | refine blk_drew ?_ | refine blk_alloc ?_ _)); refine blk_put (cs := #[.int .i64 65533, .int .i64 0, .bool false]) ?_ 1 _ (by first | rfl | (simp only [*]; done) | (simp only [*]; rfl)); (with_reducible repeat (first | refine blk_drewN ?_ _ | refine blk_drew ?_ | refine blk_alloc ?_ _)); refine blk_put (cs := #[.int .i64 0, .int .i64 0, .bool false]) ?_ 0 _ (by first | rfl | (simp only [*]; done) | (simp only [*]; rfl)); (with_reducible repeat (first | refine blk_drewN ?_ _ | refine blk_drew ?_ | refine blk_alloc ?_ _)); exact BK157.out) Tryd.underlying28 rfl (by kernel_rfl)) rfl ?_
                      exact ⟨by first | rfl | (simp [errW_none, errW_some] <;> rfl) | (simp [*, errW_none, errW_some] <;> rfl), by repeat (first | (with_reducible first | exact HB.out | apply below_alloc | apply pw_below_drewN | apply below_drew1 | refine below_set ?_ GE157.out) | exact HB.out)⟩
                  · rw [if_neg c34] at H
                    exact absurd H (by simp)
                · rw [if_neg c33] at H
                  exact absurd H (by simp)
              · rw [if_neg c32] at H
                exact absurd H (by simp)
          · replace c27 := Bool.eq_false_iff.mpr c27
            subst c27
            have H1 : (some (65533, 1, false)) = some (r1, r2, r3) := by rw [if_neg (show ¬ (false = true) by decide)] at H; exact H
            clear H
            have H := H1
            clear H1
            simp only [Option.some.injEq, Prod.mk.injEq] at H
            obtain ⟨rfl, rfl, rfl⟩ := H
            go_wp2_with (first | ((with_reducible refine gate_callee (f := 19) rfl ?_); refine goesL_ (some 97) rfl rfl Tryd.func19 (by kernel_rfl) rfl #[.int .i64 x9_8] rfl (by (try simp only [List.map_toArray, List.map_cons, List.map_nil]); first | done | rfl | (simp only [List.length_drop, List.length_take]; rfl)) ?_; (with_reducible refine (rectoref02_Is.calls x9_8 false _ A26.out ?side1).mono ?_); (case side1 => exact Aside0.mk (Laid.below HG.out (by repeat (first | (with_reducible first | exact HB.out | apply below_alloc | apply pw_below_drewN | apply below_drew1 | refine below_set ?_ GE157.out) | exact HB.out)))); rintro e w' ⟨rfl, ⟨nd, rfl⟩⟩; refine ⟨_, rfl, ?_⟩; (try (rw [drewN_self wc]; generalize hq_ : World.drewN wc _ = wc; have n0_ : Aside0 (wc.heap[gb157]? = some (.cells #[.int .i64 0, .int .i64 0, .bool false] 28 (0, 0))) := ⟨by rw [← hq_]; exact (by (with_reducible repeat (first | refine blk_drewN ?_ _ | refine blk_drew ?_ | refine blk_alloc ?_ _)); exact BK157.out)⟩; have n1_ : Aside0 (Below w.heap.size w wc) := ⟨by rw [← hq_]; exact (by repeat (first | (with_reducible first | exact HB.out | apply below_alloc | apply pw_below_drewN | apply below_drew1 | refine below_set ?_ GE157.out) | exact HB.out))⟩; clear BK157 HB hq_; have BK157 := n0_; have HB := n1_; clear n0_ n1_)); have hcz40_0 : wc.cell? ⟨gb157, 0, none⟩ = some (.int .i64 0) := (blk_cell BK157.out 0).trans rfl; have hcz40_1 : wc.cell? ⟨gb157, 1, none⟩ = some (.int .i64 0) := (blk_cell BK157.out 1).trans rfl; have hcz40_2 : wc.cell? ⟨gb157, 2, none⟩ = some (.bool false) := (blk_cell BK157.out 2).trans rfl; have hfz40_0 := blk_frozen BK157.out 0; have hfz40_1 := blk_frozen BK157.out 1; have hfz40_2 := blk_frozen BK157.out 2))
            refine bodyPost_ret (results_cell_row rfl _ _ gb157 28 #[.int .i64 65533, .int .i64 1, .bool false] (0, 0) _ rfl (by (with_reducible repeat (first | refine blk_drewN ?_ _ | refine blk_drew ?_ | refine blk_alloc ?_ _)); refine blk_put (cs := #[.int .i64 65533, .int .i64 1, .bool false]) ?_ 2 _ (by first | rfl | (simp only [*]; done) | (simp only [*]; rfl)); (with_reducible repeat (first | refine blk_drewN ?_ _ | refine blk_drew ?_ | refine blk_alloc ?_ _)); refine blk_put (cs := #[.int .i64 65533, .int .i64 0, .bool false]) ?_ 1 _ (by first | rfl | (simp only [*]; done) | (simp only [*]; rfl)); (with_reducible repeat (first | refine blk_drewN ?_ _ | refine blk_drew ?_ | refine blk_alloc ?_ _)); refine blk_put (cs := #[.int .i64 0, .int .i64 0, .bool false]) ?_ 0 _ (by first | rfl | (simp only [*]; done) | (simp only [*]; rfl)); (with_reducible repeat (first | refine blk_drewN ?_ _ | refine blk_drew ?_ | refine blk_alloc ?_ _)); exact BK157.out) Tryd.underlying28 rfl (by kernel_rfl)) rfl ?_
            exact ⟨by first | rfl | (simp [errW_none, errW_some] <;> rfl) | (simp [*, errW_none, errW_some] <;> rfl), by repeat (first | (with_reducible first | exact HB.out | apply below_alloc | apply pw_below_drewN | apply below_drew1 | refine below_set ?_ GE157.out) | exact HB.out)⟩
    · rw [if_neg c4] at H
      exact absurd H (by simp)
  · rw [if_neg c3] at H
    exact absurd H (by simp)

/-! ### rectoref04_at: function 48 -/
def rectoref04_at.f (a0 : ByteArray) (a1 : Int) : Option (Int) := if a1 < 0 then (some 0) else (if a1 ≥ (a0.size : Int) then (some 0) else (if 0 ≤ a1 then (if a1 < (a0.size : Int) then (some (bt a0 a1)) else (none)) else (none)))
set_option maxHeartbeats 8000000 in
set_option maxRecDepth 100000 in
theorem rectoref04_at.calls (a0 : ByteArray) (a1 : Int) (r : Int) (w : World) (h : rectoref04_at.f a0 a1 = some r) (HG : Aside0 (Laid w)) :
    Calls Tryd.prog 48 #[.string a0, .int .i64 a1] w fun e w' => e = .returned (.int .u8 r) ∧ Drawn0 w w' := by
  have H : (if a1 < 0 then (some 0) else (if a1 ≥ (a0.size : Int) then (some 0) else (if 0 ≤ a1 then (if a1 < (a0.size : Int) then (some (bt a0 a1)) else (none)) else (none)))) = some r := h
  clear h
  by_cases c3 : a1 < 0
  · rw [if_pos c3] at H
    have c3b0 : decide (a1 < 0) = true := decide_eq_true c3
    clear c3
    obtain rfl := Option.some.inj H
    go_enter Tryd.func48, Tryd.ntmps48
    go_wp2
    go_ret
    exact ⟨by first | rfl | (simp; done) | (simp [*]; done), by repeat (first | exact Drawn0.refl _ | apply Drawn0.step)⟩
  · rw [if_neg c3] at H
    have c3b0 : decide (a1 < 0) = false := decide_eq_false c3
    clear c3
    by_cases c4 : a1 ≥ (a0.size : Int)
    · rw [if_pos c4] at H
      have c4b0 : decide ((a0.size : Int) ≤ a1) = true := decide_eq_true c4
      clear c4
      obtain rfl := Option.some.inj H
      go_enter Tryd.func48, Tryd.ntmps48
      go_wp2
      go_ret
      exact ⟨by first | rfl | (simp; done) | (simp [*]; done), by repeat (first | exact Drawn0.refl _ | apply Drawn0.step)⟩
    · rw [if_neg c4] at H
      have c4b0 : decide ((a0.size : Int) ≤ a1) = false := decide_eq_false c4
      clear c4
      by_cases c5 : 0 ≤ a1
      · rw [if_pos c5] at H
        have c5b0 : decide (0 ≤ a1) = true := decide_eq_true c5
        clear c5
        by_cases c6 : a1 < (a0.size : Int)
        · rw [if_pos c6] at H
          have c6b0 : decide (a1 < (a0.size : Int)) = true := decide_eq_true c6
          clear c6
          obtain rfl := Option.some.inj H
          have p7 : 0 ≤ (a1 : Int) := of_decide_eq_true (by first | (with_reducible assumption) | assumption)
          have q7 : a1 < (a0.size : Int) := of_decide_eq_true (by first | (with_reducible assumption) | assumption)
          have hx7 := bt_at a0 a1
          replace p7 := eq_true p7
          replace q7 := eq_true q7
          go_enter Tryd.func48, Tryd.ntmps48
          go_wp2
          go_ret
          exact ⟨by first | rfl | (simp; done) | (simp [*]; done), by repeat (first | exact Drawn0.refl _ | apply Drawn0.step)⟩
        · rw [if_neg c6] at H
          exact absurd H (by simp)
      · rw [if_neg c5] at H
        exact absurd H (by simp)

/-! ### rectoref04_Refs: function 51 -/
def rectoref04_Refs.f  : Option ((List (S80))) := some (([(⟨(⟨#[97, 109, 112]⟩ : ByteArray), 38⟩ : S80), (⟨(⟨#[108, 116]⟩ : ByteArray), 60⟩ : S80), (⟨(⟨#[103, 116]⟩ : ByteArray), 62⟩ : S80), (⟨(⟨#[113, 117, 111, 116]⟩ : ByteArray), 34⟩ : S80), (⟨(⟨#[110, 98, 115, 112]⟩ : ByteArray), 160⟩ : S80), (⟨(⟨#[99, 111, 112, 121]⟩ : ByteArray), 169⟩ : S80), (⟨(⟨#[114, 101, 103]⟩ : ByteArray), 174⟩ : S80), (⟨(⟨#[110, 111, 116]⟩ : ByteArray), 172⟩ : S80), (⟨(⟨#[110, 111, 116, 105, 110]⟩ : ByteArray), 8713⟩ : S80), (⟨(⟨#[116, 105, 109, 101, 115]⟩ : ByteArray), 215⟩ : S80), (⟨(⟨#[112, 97, 114, 97]⟩ : ByteArray), 182⟩ : S80), (⟨(⟨#[115, 101, 99, 116]⟩ : ByteArray), 167⟩ : S80), (⟨(⟨#[101, 97, 99, 117, 116, 101]⟩ : ByteArray), 233⟩ : S80), (⟨(⟨#[69, 97, 99, 117, 116, 101]⟩ : ByteArray), 201⟩ : S80), (⟨(⟨#[97, 117, 109, 108]⟩ : ByteArray), 228⟩ : S80), (⟨(⟨#[65, 117, 109, 108]⟩ : ByteArray), 196⟩ : S80), (⟨(⟨#[115, 122, 108, 105, 103]⟩ : ByteArray), 223⟩ : S80), (⟨(⟨#[101, 117, 114, 111]⟩ : ByteArray), 8364⟩ : S80), (⟨(⟨#[104, 101, 108, 108, 105, 112]⟩ : ByteArray), 8230⟩ : S80), (⟨(⟨#[109, 100, 97, 115, 104]⟩ : ByteArray), 8212⟩ : S80), (⟨(⟨#[110, 100, 97, 115, 104]⟩ : ByteArray), 8211⟩ : S80), (⟨(⟨#[97, 108, 112, 104, 97]⟩ : ByteArray), 945⟩ : S80), (⟨(⟨#[98, 101, 116, 97]⟩ : ByteArray), 946⟩ : S80), (⟨(⟨#[114, 97, 114, 114]⟩ : ByteArray), 8594⟩ : S80), (⟨(⟨#[108, 97, 114, 114]⟩ : ByteArray), 8592⟩ : S80), (⟨(⟨#[97, 112, 111, 115]⟩ : ByteArray), 39⟩ : S80), (⟨(⟨#[121, 101, 110]⟩ : ByteArray), 165⟩ : S80), (⟨(⟨#[109, 105, 99, 114, 111]⟩ : ByteArray), 181⟩ : S80)] : List (S80)))
set_option maxHeartbeats 8000000 in
set_option maxRecDepth 100000 in
theorem rectoref04_Refs.calls  (r : List (S80)) (w : World) (h : rectoref04_Refs.f  = some r) (HG : Aside0 (Laid w)) :
    Calls Tryd.prog 51 #[] w fun e w' => ∃ v0_ : Value, e = .returned (v0_) ∧ Kd.R k80 80 w' w.heap.size (fun _ => True) v0_ r ∧ Below w.heap.size w w' := by
  have hu80 := Tryd.underlying80
  have HB := Aside0.mk (Below.refl w.heap.size w)
  have H : (some (([(⟨(⟨#[97, 109, 112]⟩ : ByteArray), 38⟩ : S80), (⟨(⟨#[108, 116]⟩ : ByteArray), 60⟩ : S80), (⟨(⟨#[103, 116]⟩ : ByteArray), 62⟩ : S80), (⟨(⟨#[113, 117, 111, 116]⟩ : ByteArray), 34⟩ : S80), (⟨(⟨#[110, 98, 115, 112]⟩ : ByteArray), 160⟩ : S80), (⟨(⟨#[99, 111, 112, 121]⟩ : ByteArray), 169⟩ : S80), (⟨(⟨#[114, 101, 103]⟩ : ByteArray), 174⟩ : S80), (⟨(⟨#[110, 111, 116]⟩ : ByteArray), 172⟩ : S80), (⟨(⟨#[110, 111, 116, 105, 110]⟩ : ByteArray), 8713⟩ : S80), (⟨(⟨#[116, 105, 109, 101, 115]⟩ : ByteArray), 215⟩ : S80), (⟨(⟨#[112, 97, 114, 97]⟩ : ByteArray), 182⟩ : S80), (⟨(⟨#[115, 101, 99, 116]⟩ : ByteArray), 167⟩ : S80), (⟨(⟨#[101, 97, 99, 117, 116, 101]⟩ : ByteArray), 233⟩ : S80), (⟨(⟨#[69, 97, 99, 117, 116, 101]⟩ : ByteArray), 201⟩ : S80), (⟨(⟨#[97, 117, 109, 108]⟩ : ByteArray), 228⟩ : S80), (⟨(⟨#[65, 117, 109, 108]⟩ : ByteArray), 196⟩ : S80), (⟨(⟨#[115, 122, 108, 105, 103]⟩ : ByteArray), 223⟩ : S80), (⟨(⟨#[101, 117, 114, 111]⟩ : ByteArray), 8364⟩ : S80), (⟨(⟨#[104, 101, 108, 108, 105, 112]⟩ : ByteArray), 8230⟩ : S80), (⟨(⟨#[109, 100, 97, 115, 104]⟩ : ByteArray), 8212⟩ : S80), (⟨(⟨#[110, 100, 97, 115, 104]⟩ : ByteArray), 8211⟩ : S80), (⟨(⟨#[97, 108, 112, 104, 97]⟩ : ByteArray), 945⟩ : S80), (⟨(⟨#[98, 101, 116, 97]⟩ : ByteArray), 946⟩ : S80), (⟨(⟨#[114, 97, 114, 114]⟩ : ByteArray), 8594⟩ : S80), (⟨(⟨#[108, 97, 114, 114]⟩ : ByteArray), 8592⟩ : S80), (⟨(⟨#[97, 112, 111, 115]⟩ : ByteArray), 39⟩ : S80), (⟨(⟨#[121, 101, 110]⟩ : ByteArray), 165⟩ : S80), (⟨(⟨#[109, 105, 99, 114, 111]⟩ : ByteArray), 181⟩ : S80)] : List (S80)))) = some r := h
  clear h
  obtain ⟨y163, hy163⟩ : ∃ y_ : List (S80), y_ = (([(⟨(⟨#[97, 109, 112]⟩ : ByteArray), 38⟩ : S80), (⟨(⟨#[108, 116]⟩ : ByteArray), 60⟩ : S80), (⟨(⟨#[103, 116]⟩ : ByteArray), 62⟩ : S80), (⟨(⟨#[113, 117, 111, 116]⟩ : ByteArray), 34⟩ : S80), (⟨(⟨#[110, 98, 115, 112]⟩ : ByteArray), 160⟩ : S80), (⟨(⟨#[99, 111, 112, 121]⟩ : ByteArray), 169⟩ : S80), (⟨(⟨#[114, 101, 103]⟩ : ByteArray), 174⟩ : S80), (⟨(⟨#[110, 111, 116]⟩ : ByteArray), 172⟩ : S80), (⟨(⟨#[110, 111, 116, 105, 110]⟩ : ByteArray), 8713⟩ : S80), (⟨(⟨#[116, 105, 109, 101, 115]⟩ : ByteArray), 215⟩ : S80), (⟨(⟨#[112, 97, 114, 97]⟩ : ByteArray), 182⟩ : S80), (⟨(⟨#[115, 101, 99, 116]⟩ : ByteArray), 167⟩ : S80), (⟨(⟨#[101, 97, 99, 117, 116, 101]⟩ : ByteArray), 233⟩ : S80), (⟨(⟨#[69, 97, 99, 117, 116, 101]⟩ : ByteArray), 201⟩ : S80), (⟨(⟨#[97, 117, 109, 108]⟩ : ByteArray), 228⟩ : S80), (⟨(⟨#[65, 117, 109, 108]⟩ : ByteArray), 196⟩ : S80), (⟨(⟨#[115, 122, 108, 105, 103]⟩ : ByteArray), 223⟩ : S80), (⟨(⟨#[101, 117, 114, 111]⟩ : ByteArray), 8364⟩ : S80), (⟨(⟨#[104, 101, 108, 108, 105, 112]⟩ : ByteArray), 8230⟩ : S80), (⟨(⟨#[109, 100, 97, 115, 104]⟩ : ByteArray), 8212⟩ : S80), (⟨(⟨#[110, 100, 97, 115, 104]⟩ : ByteArray), 8211⟩ : S80), (⟨(⟨#[97, 108, 112, 104, 97]⟩ : ByteArray), 945⟩ : S80), (⟨(⟨#[98, 101, 116, 97]⟩ : ByteArray), 946⟩ : S80), (⟨(⟨#[114, 97, 114, 114]⟩ : ByteArray), 8594⟩ : S80), (⟨(⟨#[108, 97, 114, 114]⟩ : ByteArray), 8592⟩ : S80), (⟨(⟨#[97, 112, 111, 115]⟩ : ByteArray), 39⟩ : S80), (⟨(⟨#[121, 101, 110]⟩ : ByteArray), 165⟩ : S80), (⟨(⟨#[109, 105, 99, 114, 111]⟩ : ByteArray), 181⟩ : S80)] : List (S80))) := ⟨_, rfl⟩
  replace H : (some y163) = some r := by first | (rw [hy163]; with_reducible exact H) | (have H2_ := (Option.bind_some _ _).symm.trans H; rw [hy163]; with_reducible exact H2_) | (have H2_ := (Option.bind_some _ _).symm.trans H; with_reducible exact H2_) | with_reducible exact H | (rw [hy163]; exact H) | exact H
  have Ny163 := Aside0.mk hy163
  clear hy163
  obtain rfl := Option.some.inj H
  go_enter Tryd.func51, Tryd.ntmps51
  go_wp2_with (first | ((with_reducible refine gate_dst (N := 29) rfl ?_); refine Kd.R_lit k80 _ 80 ?hg (N := 29) ?hd (xs := ([(⟨(⟨#[97, 109, 112]⟩ : ByteArray), 38⟩ : S80), (⟨(⟨#[108, 116]⟩ : ByteArray), 60⟩ : S80), (⟨(⟨#[103, 116]⟩ : ByteArray), 62⟩ : S80), (⟨(⟨#[113, 117, 111, 116]⟩ : ByteArray), 34⟩ : S80), (⟨(⟨#[110, 98, 115, 112]⟩ : ByteArray), 160⟩ : S80), (⟨(⟨#[99, 111, 112, 121]⟩ : ByteArray), 169⟩ : S80), (⟨(⟨#[114, 101, 103]⟩ : ByteArray), 174⟩ : S80), (⟨(⟨#[110, 111, 116]⟩ : ByteArray), 172⟩ : S80), (⟨(⟨#[110, 111, 116, 105, 110]⟩ : ByteArray), 8713⟩ : S80), (⟨(⟨#[116, 105, 109, 101, 115]⟩ : ByteArray), 215⟩ : S80), (⟨(⟨#[112, 97, 114, 97]⟩ : ByteArray), 182⟩ : S80), (⟨(⟨#[115, 101, 99, 116]⟩ : ByteArray), 167⟩ : S80), (⟨(⟨#[101, 97, 99, 117, 116, 101]⟩ : ByteArray), 233⟩ : S80), (⟨(⟨#[69, 97, 99, 117, 116, 101]⟩ : ByteArray), 201⟩ : S80), (⟨(⟨#[97, 117, 109, 108]⟩ : ByteArray), 228⟩ : S80), (⟨(⟨#[65, 117, 109, 108]⟩ : ByteArray), 196⟩ : S80), (⟨(⟨#[115, 122, 108, 105, 103]⟩ : ByteArray), 223⟩ : S80), (⟨(⟨#[101, 117, 114, 111]⟩ : ByteArray), 8364⟩ : S80), (⟨(⟨#[104, 101, 108, 108, 105, 112]⟩ : ByteArray), 8230⟩ : S80), (⟨(⟨#[109, 100, 97, 115, 104]⟩ : ByteArray), 8212⟩ : S80), (⟨(⟨#[110, 100, 97, 115, 104]⟩ : ByteArray), 8211⟩ : S80), (⟨(⟨#[97, 108, 112, 104, 97]⟩ : ByteArray), 945⟩ : S80), (⟨(⟨#[98, 101, 116, 97]⟩ : ByteArray), 946⟩ : S80), (⟨(⟨#[114, 97, 114, 114]⟩ : ByteArray), 8594⟩ : S80), (⟨(⟨#[108, 97, 114, 114]⟩ : ByteArray), 8592⟩ : S80), (⟨(⟨#[97, 112, 111, 115]⟩ : ByteArray), 39⟩ : S80), (⟨(⟨#[121, 101, 110]⟩ : ByteArray), 165⟩ : S80), (⟨(⟨#[109, 105, 99, 114, 111]⟩ : ByteArray), 181⟩ : S80)] : List (S80))) (inner := [.string (⟨#[97, 109, 112]⟩ : ByteArray), .int .i64 38, .string (⟨#[108, 116]⟩ : ByteArray), .int .i64 60, .string (⟨#[103, 116]⟩ : ByteArray), .int .i64 62, .string (⟨#[113, 117, 111, 116]⟩ : ByteArray), .int .i64 34, .string (⟨#[110, 98, 115, 112]⟩ : ByteArray), .int .i64 160, .string (⟨#[99, 111, 112, 121]⟩ : ByteArray), .int .i64 169, .string (⟨#[114, 101, 103]⟩ : ByteArray), .int .i64 174, .string (⟨#[110, 111, 116]⟩ : ByteArray), .int .i64 172, .string (⟨#[110, 111, 116, 105, 110]⟩ : ByteArray), .int .i64 8713, .string (⟨#[116, 105, 109, 101, 115]⟩ : ByteArray), .int .i64 215, .string (⟨#[112, 97, 114, 97]⟩ : ByteArray), .int .i64 182, .string (⟨#[115, 101, 99, 116]⟩ : ByteArray), .int .i64 167, .string (⟨#[101, 97, 99, 117, 116, 101]⟩ : ByteArray), .int .i64 233, .string (⟨#[69, 97, 99, 117, 116, 101]⟩ : ByteArray), .int .i64 201, .string (⟨#[97, 117, 109, 108]⟩ : ByteArray), .int .i64 228, .string (⟨#[65, 117, 109, 108]⟩ : ByteArray), .int .i64 196, .string (⟨#[115, 122, 108, 105, 103]⟩ : ByteArray), .int .i64 223, .string (⟨#[101, 117, 114, 111]⟩ : ByteArray), .int .i64 8364, .string (⟨#[104, 101, 108, 108, 105, 112]⟩ : ByteArray), .int .i64 8230, .string (⟨#[109, 100, 97, 115, 104]⟩ : ByteArray), .int .i64 8212, .string (⟨#[110, 100, 97, 115, 104]⟩ : ByteArray), .int .i64 8211, .string (⟨#[97, 108, 112, 104, 97]⟩ : ByteArray), .int .i64 945, .string (⟨#[98, 101, 116, 97]⟩ : ByteArray), .int .i64 946, .string (⟨#[114, 97, 114, 114]⟩ : ByteArray), .int .i64 8594, .string (⟨#[108, 97, 114, 114]⟩ : ByteArray), .int .i64 8592, .string (⟨#[97, 112, 111, 115]⟩ : ByteArray), .int .i64 39, .string (⟨#[121, 101, 110]⟩ : ByteArray), .int .i64 165, .string (⟨#[109, 105, 99, 114, 111]⟩ : ByteArray), .int .i64 181]) (ok := fun _ => True) (okp := fun _ => True) ?hr ?hp (fun _ hk => hk) trivial (Below.refl _ _) (Nat.le_refl _) (by simp) ?_; (case hd => rfl); (case hg => rfl); (case hr => first | (go_simp; done) | (go_simp; rfl)); (case hp => exact (Reps.c2 (show Kd.M k80 _ _ _ (⟨(⟨#[97, 109, 112]⟩ : ByteArray), 38⟩ : S80) [.string (⟨#[97, 109, 112]⟩ : ByteArray), .int .i64 38] from (k80_mkM _ _ _ (⟨(⟨#[97, 109, 112]⟩ : ByteArray), 38⟩ : S80) )) (Reps.c2 (show Kd.M k80 _ _ _ (⟨(⟨#[108, 116]⟩ : ByteArray), 60⟩ : S80) [.string (⟨#[108, 116]⟩ : ByteArray), .int .i64 60] from (k80_mkM _ _ _ (⟨(⟨#[108, 116]⟩ : ByteArray), 60⟩ : S80) )) (Reps.c2 (show Kd.M k80 _ _ _ (⟨(⟨#[103, 116]⟩ : ByteArray), 62⟩ : S80) [.string (⟨#[103, 116]⟩ : ByteArray), .int .i64 62] from (k80_mkM _ _ _ (⟨(⟨#[103, 116]⟩ : ByteArray), 62⟩ : S80) )) (Reps.c2 (show Kd.M k80 _ _ _ (⟨(⟨#[113, 117, 111, 116]⟩ : ByteArray), 34⟩ : S80) [.string (⟨#[113, 117, 111, 116]⟩ : ByteArray), .int .i64 34] from (k80_mkM _ _ _ (⟨(⟨#[113, 117, 111, 116]⟩ : ByteArray), 34⟩ : S80) )) (Reps.c2 (show Kd.M k80 _ _ _ (⟨(⟨#[110, 98, 115, 112]⟩ : ByteArray), 160⟩ : S80) [.string (⟨#[110, 98, 115, 112]⟩ : ByteArray), .int .i64 160] from (k80_mkM _ _ _ (⟨(⟨#[110, 98, 115, 112]⟩ : ByteArray), 160⟩ : S80) )) (Reps.c2 (show Kd.M k80 _ _ _ (⟨(⟨#[99, 111, 112, 121]⟩ : ByteArray), 169⟩ : S80) [.string (⟨#[99, 111, 112, 121]⟩ : ByteArray), .int .i64 169] from (k80_mkM _ _ _ (⟨(⟨#[99, 111, 112, 121]⟩ : ByteArray), 169⟩ : S80) )) (Reps.c2 (show Kd.M k80 _ _ _ (⟨(⟨#[114, 101, 103]⟩ : ByteArray), 174⟩ : S80) [.string (⟨#[114, 101, 103]⟩ : ByteArray), .int .i64 174] from (k80_mkM _ _ _ (⟨(⟨#[114, 101, 103]⟩ : ByteArray), 174⟩ : S80) )) (Reps.c2 (show Kd.M k80 _ _ _ (⟨(⟨#[110, 111, 116]⟩ : ByteArray), 172⟩ : S80) [.string (⟨#[110, 111, 116]⟩ : ByteArray), .int .i64 172] from (k80_mkM _ _ _ (⟨(⟨#[110, 111, 116]⟩ : ByteArray), 172⟩ : S80) )) (Reps.c2 (show Kd.M k80 _ _ _ (⟨(⟨#[110, 111, 116, 105, 110]⟩ : ByteArray), 8713⟩ : S80) [.string (⟨#[110, 111, 116, 105, 110]⟩ : ByteArray), .int .i64 8713] from (k80_mkM _ _ _ (⟨(⟨#[110, 111, 116, 105, 110]⟩ : ByteArray), 8713⟩ : S80) )) (Reps.c2 (show Kd.M k80 _ _ _ (⟨(⟨#[116, 105, 109, 101, 115]⟩ : ByteArray), 215⟩ : S80) [.string (⟨#[116, 105, 109, 101, 115]⟩ : ByteArray), .int .i64 215] from (k80_mkM _ _ _ (⟨(⟨#[116, 105, 109, 101, 115]⟩ : ByteArray), 215⟩ : S80) )) (Reps.c2 (show Kd.M k80 _ _ _ (⟨(⟨#[112, 97, 114, 97]⟩ : ByteArray), 182⟩ : S80) [.string (⟨#[112, 97, 114, 97]⟩ : ByteArray), .int .i64 182] from (k80_mkM _ _ _ (⟨(⟨#[112, 97, 114, 97]⟩ : ByteArray), 182⟩ : S80) )) (Reps.c2 (show Kd.M k80 _ _ _ (⟨(⟨#[115, 101, 99, 116]⟩ : ByteArray), 167⟩ : S80) [.string (⟨#[115, 101, 99, 116]⟩ : ByteArray), .int .i64 167] from (k80_mkM _ _ _ (⟨(⟨#[115, 101, 99, 116]⟩ : ByteArray), 167⟩ : S80) )) (Reps.c2 (show Kd.M k80 _ _ _ (⟨(⟨#[101, 97, 99, 117, 116, 101]⟩ : ByteArray), 233⟩ : S80) [.string (⟨#[101, 97, 99, 117, 116, 101]⟩ : ByteArray), .int .i64 233] from (k80_mkM _ _ _ (⟨(⟨#[101, 97, 99, 117, 116, 101]⟩ : ByteArray), 233⟩ : S80) )) (Reps.c2 (show Kd.M k80 _ _ _ (⟨(⟨#[69, 97, 99, 117, 116, 101]⟩ : ByteArray), 201⟩ : S80) [.string (⟨#[69, 97, 99, 117, 116, 101]⟩ : ByteArray), .int .i64 201] from (k80_mkM _ _ _ (⟨(⟨#[69, 97, 99, 117, 116, 101]⟩ : ByteArray), 201⟩ : S80) )) (Reps.c2 (show Kd.M k80 _ _ _ (⟨(⟨#[97, 117, 109, 108]⟩ : ByteArray), 228⟩ : S80) [.string (⟨#[97, 117, 109, 108]⟩ : ByteArray), .int .i64 228] from (k80_mkM _ _ _ (⟨(⟨#[97, 117, 109, 108]⟩ : ByteArray), 228⟩ : S80) )) (Reps.c2 (show Kd.M k80 _ _ _ (⟨(⟨#[65, 117, 109, 108]⟩ : ByteArray), 196⟩ : S80) [.string (⟨#[65, 117, 109, 108]⟩ : ByteArray), .int .i64 196] from (k80_mkM _ _ _ (⟨(⟨#[65, 117, 109, 108]⟩ : ByteArray), 196⟩ : S80) )) (Reps.c2 (show Kd.M k80 _ _ _ (⟨(⟨#[115, 122, 108, 105, 103]⟩ : ByteArray), 223⟩ : S80) [.string (⟨#[115, 122, 108, 105, 103]⟩ : ByteArray), .int .i64 223] from (k80_mkM _ _ _ (⟨(⟨#[115, 122, 108, 105, 103]⟩ : ByteArray), 223⟩ : S80) )) (Reps.c2 (show Kd.M k80 _ _ _ (⟨(⟨#[101, 117, 114, 111]⟩ : ByteArray), 8364⟩ : S80) [.string (⟨#[101, 117, 114, 111]⟩ : ByteArray), .int .i64 8364] from (k80_mkM _ _ _ (⟨(⟨#[101, 117, 114, 111]⟩ : ByteArray), 8364⟩ : S80) )) (Reps.c2 (show Kd.M k80 _ _ _ (⟨(⟨#[104, 101, 108, 108, 105, 112]⟩ : ByteArray), 8230⟩ : S80) [.string (⟨#[104, 101, 108, 108, 105, 112]⟩ : ByteArray), .int .i64 8230] from (k80_mkM _ _ _ (⟨(⟨#[104, 101, 108, 108, 105, 112]⟩ : ByteArray), 8230⟩ : S80) )) (Reps.c2 (show Kd.M k80 _ _ _ (⟨(⟨#[109, 100, 97, 115, 104]⟩ : ByteArray), 8212⟩ : S80) [.string (⟨#[109, 100, 97, 115, 104]⟩ : ByteArray), .int .i64 8212] from (k80_mkM _ _ _ (⟨(⟨#[109, 100, 97, 115, 104]⟩ : ByteArray), 8212⟩ : S80) )) (Reps.c2 (show Kd.M k80 _ _ _ (⟨(⟨#[110, 100, 97, 115, 104]⟩ : ByteArray), 8211⟩ : S80) [.string (⟨#[110, 100, 97, 115, 104]⟩ : ByteArray), .int .i64 8211] from (k80_mkM _ _ _ (⟨(⟨#[110, 100, 97, 115, 104]⟩ : ByteArray), 8211⟩ : S80) )) (Reps.c2 (show Kd.M k80 _ _ _ (⟨(⟨#[97, 108, 112, 104, 97]⟩ : ByteArray), 945⟩ : S80) [.string (⟨#[97, 108, 112, 104, 97]⟩ : ByteArray), .int .i64 945] from (k80_mkM _ _ _ (⟨(⟨#[97, 108, 112, 104, 97]⟩ : ByteArray), 945⟩ : S80) )) (Reps.c2 (show Kd.M k80 _ _ _ (⟨(⟨#[98, 101, 116, 97]⟩ : ByteArray), 946⟩ : S80) [.string (⟨#[98, 101, 116, 97]⟩ : ByteArray), .int .i64 946] from (k80_mkM _ _ _ (⟨(⟨#[98, 101, 116, 97]⟩ : ByteArray), 946⟩ : S80) )) (Reps.c2 (show Kd.M k80 _ _ _ (⟨(⟨#[114, 97, 114, 114]⟩ : ByteArray), 8594⟩ : S80) [.string (⟨#[114, 97, 114, 114]⟩ : ByteArray), .int .i64 8594] from (k80_mkM _ _ _ (⟨(⟨#[114, 97, 114, 114]⟩ : ByteArray), 8594⟩ : S80) )) (Reps.c2 (show Kd.M k80 _ _ _ (⟨(⟨#[108, 97, 114, 114]⟩ : ByteArray), 8592⟩ : S80) [.string (⟨#[108, 97, 114, 114]⟩ : ByteArray), .int .i64 8592] from (k80_mkM _ _ _ (⟨(⟨#[108, 97, 114, 114]⟩ : ByteArray), 8592⟩ : S80) )) (Reps.c2 (show Kd.M k80 _ _ _ (⟨(⟨#[97, 112, 111, 115]⟩ : ByteArray), 39⟩ : S80) [.string (⟨#[97, 112, 111, 115]⟩ : ByteArray), .int .i64 39] from (k80_mkM _ _ _ (⟨(⟨#[97, 112, 111, 115]⟩ : ByteArray), 39⟩ : S80) )) (Reps.c2 (show Kd.M k80 _ _ _ (⟨(⟨#[121, 101, 110]⟩ : ByteArray), 165⟩ : S80) [.string (⟨#[121, 101, 110]⟩ : ByteArray), .int .i64 165] from (k80_mkM _ _ _ (⟨(⟨#[121, 101, 110]⟩ : ByteArray), 165⟩ : S80) )) (Reps.c2 (show Kd.M k80 _ _ _ (⟨(⟨#[109, 105, 99, 114, 111]⟩ : ByteArray), 181⟩ : S80) [.string (⟨#[109, 105, 99, 114, 111]⟩ : ByteArray), .int .i64 181] from (k80_mkM _ _ _ (⟨(⟨#[109, 105, 99, 114, 111]⟩ : ByteArray), 181⟩ : S80) )) (Reps.none _ _)))))))))))))))))))))))))))))); intro v164 w1 ho2 hb hg_ hnew_; clear hg_ hnew_; (first | rw [← Ny163.out] at ho2 | (simp only [Int.reduceToNat] at ho2; rw [← Ny163.out] at ho2)); have n0_ := Aside0.mk (Kd.R_lower ho2 (below_size (by repeat (first | (with_reducible first | exact HB.out | apply below_alloc | apply pw_below_drewN | apply below_drew1) | exact HB.out)))); have n1_ := Aside0.mk (below_step (by repeat (first | (with_reducible first | exact HB.out | apply below_alloc | apply pw_below_drewN | apply below_drew1) | exact HB.out)) hb); clear HB; have HO165 := n0_; have HB := n1_; clear n0_ n1_; clear hb ho2))
  go_ret
  exact ⟨_, by first | rfl | (simp [errW_none, errW_some] <;> rfl) | (simp [*, errW_none, errW_some] <;> rfl), by (with_reducible repeat (first | apply Kd.R_alloc | apply Kd.R_drewN | apply Kd.R_drew)); exact HO165.out, by repeat (first | (with_reducible first | exact HB.out | apply below_alloc | apply pw_below_drewN | apply below_drew1) | exact HB.out)⟩

/-! ### rectoref04_Name: function 33 -/
def rectoref04_Name.l0 : Nat → ByteArray → List (S80) → Int → Int → Option (Int)
  | 0, _, _, _, _ => none
  | k + 1, x0, x5, x6, x7 => if x7 < x6 then (if 0 ≤ x7 then (if x7 < (x5.length : Int) then (if ((rd_T80 x5 x7).f0).toList = x0.toList then (some ((rd_T80 x5 x7).f1)) else (rectoref04_Name.l0 k x0 x5 x6 (wrap64 (x7 + 1)))) else (none)) else (none)) else (some 0)
def rectoref04_Name.f (k : Nat) (a0 : ByteArray) : Option (Int) := (rectoref04_Refs.f).bind fun t166 => (rectoref04_Name.l0 k a0 t166 (t166.length : Int) 0)
theorem rectoref04_Name.mono_l : ∀ k, (∀ y0 y1 y2 y3, LeO (rectoref04_Name.l0 k y0 y1 y2 y3) (rectoref04_Name.l0 (k + 1) y0 y1 y2 y3))
  | 0 => fun _ _ _ _ r h => by simp [rectoref04_Name.l0] at h
  | k + 1 => by
    have ih0 := rectoref04_Name.mono_l k
    · intro y0 y1 y2 y3
      unfold rectoref04_Name.l0
      repeat' first
      | (with_reducible exact ih0 _ _ _ _)
      | (with_reducible exact LeO.refl _)
      | (with_reducible exact LeO.none _)
      | (with_reducible refine LeO.ite ?_ ?_)
      | (with_reducible refine LeO.bind ?_ (fun _ => ?_))
      | exact ih0 _ _ _ _
      | exact LeO.none _
      | refine LeO.ite ?_ ?_
      | refine LeO.bind ?_ (fun _ => ?_)
theorem rectoref04_Name.mono : ∀ a0 k, LeO (rectoref04_Name.f k a0) (rectoref04_Name.f (k + 1) a0) := by
  intro a0 k
  have ih0 := rectoref04_Name.mono_l k
  unfold rectoref04_Name.f
  repeat' first
      | (with_reducible exact ih0 _ _ _ _)
      | (with_reducible exact LeO.refl _)
      | (with_reducible exact LeO.none _)
      | (with_reducible refine LeO.ite ?_ ?_)
      | (with_reducible refine LeO.bind ?_ (fun _ => ?_))
      | exact ih0 _ _ _ _
      | exact LeO.none _
      | refine LeO.ite ?_ ?_
      | refine LeO.bind ?_ (fun _ => ?_)
set_option maxHeartbeats 8000000 in
set_option maxRecDepth 100000 in
theorem rectoref04_Name.calls (k : Nat) (a0 : ByteArray) (r : Int) (w : World) (h : rectoref04_Name.f k a0 = some r) (HG : Aside0 (Laid w)) :
    Calls Tryd.prog 33 #[.string a0] w fun e w' => e = .returned (.int .i64 r) ∧ Below w.heap.size w w' := by
  have hu80 := Tryd.underlying80
  have HB := Aside0.mk (Below.refl w.heap.size w)
  have H : ((rectoref04_Refs.f).bind fun t166 => (rectoref04_Name.l0 k a0 t166 (t166.length : Int) 0)) = some r := h
  clear h
  replace H := Option.bind_eq_some_iff.mp H
  obtain ⟨t166, A20, H⟩ := H
  replace H : (rectoref04_Name.l0 k a0 t166 (t166.length : Int) 0) = some r := H
  have A2 := Aside0.mk A20
  clear A20
  have H' := Aside0.mk H
  clear H
  go_enter Tryd.func33, Tryd.ntmps33
  go_wp2_with (first | ((with_reducible refine gate_callee (f := 51) rfl ?_); refine goesL_ (some 5) rfl rfl Tryd.func51 (by kernel_rfl) rfl #[] rfl (by (try simp only [List.map_toArray, List.map_cons, List.map_nil]); first | done | rfl | (simp only [List.length_drop, List.length_take]; rfl)) ?_; (with_reducible refine (rectoref04_Refs.calls  t166 _ A2.out ?side1).mono ?_); (case side1 => exact Aside0.mk (Laid.below HG.out (by repeat (first | (with_reducible first | exact HB.out | apply below_alloc | apply pw_below_drewN | apply below_drew1) | exact HB.out)))); rintro e w3 ⟨v167, rfl, ho0, hb⟩; refine ⟨_, rfl, ?_⟩; have n0_ := Aside0.mk (Kd.R_lower ho0 (below_size (by repeat (first | (with_reducible first | exact HB.out | apply below_alloc | apply pw_below_drewN | apply below_drew1) | exact HB.out)))); have n1_ := Aside0.mk (below_step (by repeat (first | (with_reducible first | exact HB.out | apply below_alloc | apply pw_below_drewN | apply below_drew1) | exact HB.out)) hb); clear HB; have HO168 := n0_; have HB := n1_; clear n0_ n1_; (try clear hb); (try clear hb2); (try clear hk); (try clear hi); (try clear ho0); obtain ⟨Ao4, co4, eo4⟩ := Kd.R_slice HO168.out; subst eo4))
  go_loopg [7] k (fun kq v7 w' => ∃ (x7_1 : Int), v7 = .int .i64 x7_1 ∧ Aside0 (rectoref04_Name.l0 kq a0 t166 (t166.length : Int) x7_1 = some r) ∧ Aside0 (kq ≤ k) ∧ Aside0 (Kd.R k80 80 w' w.heap.size (fun _ => True) (.slice Ao4 t166.length co4) t166) ∧ Aside0 (Below w.heap.size w w'))
  case atStart => exact ⟨(0), (by first | rfl | (simp; done) | (simp [*]; done)), H', ⟨Nat.le_refl _⟩, ⟨by (with_reducible repeat (first | apply Kd.R_alloc | apply Kd.R_drewN | apply Kd.R_drew)); exact HO168.out⟩, ⟨by repeat (first | (with_reducible first | exact HB.out | apply below_alloc | apply pw_below_drewN | apply below_drew1) | exact HB.out)⟩⟩
  case round =>
    clear H'
    try clear p2
    try clear c3
    obtain ⟨x7_1, rfl, HA, HK1, HO_5, HB⟩ := hrel
    cases gk with
    | zero => exact absurd HA.out (by simp [rectoref04_Name.l0])
    | succ k1 =>
      have H := HA.out
      clear HA
      simp only [rectoref04_Name.l0] at H
      by_cases c5 : x7_1 < (t166.length : Int)
      · rw [if_pos c5] at H
        have c5b0 : decide (x7_1 < (t166.length : Int)) = true := decide_eq_true c5
        clear c5
        by_cases c6 : 0 ≤ x7_1
        · rw [if_pos c6] at H
          have c6b0 : decide (0 ≤ x7_1) = true := decide_eq_true c6
          clear c6
          by_cases c7 : x7_1 < (t166.length : Int)
          · rw [if_pos c7] at H
            have c7b0 : decide (x7_1 < (t166.length : Int)) = true := decide_eq_true c7
            clear c7
            by_cases c8 : ((rd_T80 t166 x7_1).f0).toList = a0.toList
            · rw [if_pos c8] at H
              have c8b0 : (((rd_T80 t166 x7_1).f0).toList == a0.toList) = true := beq_iff_eq.mpr c8
              have c8b1 : (((rd_T80 t166 x7_1).f0).toList != a0.toList) = false := bne_eq_false_iff_eq.mpr c8
              clear c8
              obtain rfl := Option.some.inj H
              have p169 : 0 ≤ (x7_1 : Int) := of_decide_eq_true (by first | (with_reducible assumption) | assumption)
              have q169 : x7_1 < (t166.length : Int) := of_decide_eq_true (by first | (with_reducible assumption) | assumption)
              obtain ⟨ad169, e169, hx169_0, hx169_1⟩ := at_T80 (Kd.R_reads' HO_5.out).2.2 x7_1 p169 q169
              cases e169
              replace p169 := eq_true p169
              replace q169 := eq_true q169
              go_wp2_with (first | ((with_reducible refine gate_dst (N := 4) rfl ?_); refine box_event ?hg (N := 4) ?hd (cs := #[.string (⟨#[]⟩ : ByteArray), .int .i64 0]) (t := 80) ?hr ?_; (case hd => rfl); (case hg => rfl); (case hr => first | (go_simp; done) | (go_simp; rfl)); intro gb170 hg w9 hbox hb; have n0_ := Aside0.mk (Kd.R_below (Kd.R_elderB (by (with_reducible repeat (first | apply Kd.R_alloc | apply Kd.R_drewN | apply Kd.R_drew)); exact HO_5.out) gb170 (Nat.le_of_eq hg.symm)) hb); have n1_ := Aside0.mk (below_step (by repeat (first | (with_reducible first | exact HB.out | apply below_alloc | apply pw_below_drewN | apply below_drew1) | exact HB.out)) hb); have n2_ := Aside0.mk (hbox); have n3_ := Aside0.mk ((by rw [hg]; exact (below_size (by repeat (first | (with_reducible first | exact HB.out | apply below_alloc | apply pw_below_drewN | apply below_drew1) | exact HB.out))) : w.heap.size ≤ gb170)); have n4_ := Aside0.mk ((by rw [hg]; exact (below_size (by repeat (first | (with_reducible first | exact HB.out | apply below_alloc | apply pw_below_drewN | apply below_drew1) | exact HB.out))) : w.heap.size ≤ gb170)); clear HO_5; clear HB; have HO_5 := n0_; have HB := n1_; have BK170 := n2_; have GW170 := n3_; have GE170 := n4_; clear n0_ n1_ n2_ n3_ n4_; clear hb hbox hg; have hcz10_0 : w9.cell? ⟨gb170, 0, none⟩ = some (.string (⟨#[]⟩ : ByteArray)) := (blk_cell BK170.out 0).trans rfl; have hcz10_1 : w9.cell? ⟨gb170, 1, none⟩ = some (.int .i64 0) := (blk_cell BK170.out 1).trans rfl; have hfz10_0 := blk_frozen BK170.out 0; have hfz10_1 := blk_frozen BK170.out 1))
              go_ret
              exact ⟨by first | rfl | (simp [errW_none, errW_some] <;> rfl) | (simp [*, errW_none, errW_some] <;> rfl), by repeat (first | (with_reducible first | exact HB.out | apply below_alloc | apply pw_below_drewN | apply below_drew1 | refine below_set ?_ GE170.out) | exact HB.out)⟩
            · rw [if_neg c8] at H
              have c8b0 : (((rd_T80 t166 x7_1).f0).toList == a0.toList) = false := beq_eq_false_iff_ne.mpr c8
              have c8b1 : (((rd_T80 t166 x7_1).f0).toList != a0.toList) = true := bne_iff_ne.mpr c8
              have H' := Aside0.mk H
              clear H
              have p169 : 0 ≤ (x7_1 : Int) := of_decide_eq_true (by first | (with_reducible assumption) | assumption)
              have q169 : x7_1 < (t166.length : Int) := of_decide_eq_true (by first | (with_reducible assumption) | assumption)
              obtain ⟨ad169, e169, hx169_0, hx169_1⟩ := at_T80 (Kd.R_reads' HO_5.out).2.2 x7_1 p169 q169
              cases e169
              replace p169 := eq_true p169
              replace q169 := eq_true q169
              go_wp2_with (first | ((with_reducible refine gate_dst (N := 4) rfl ?_); refine box_event ?hg (N := 4) ?hd (cs := #[.string (⟨#[]⟩ : ByteArray), .int .i64 0]) (t := 80) ?hr ?_; (case hd => rfl); (case hg => rfl); (case hr => first | (go_simp; done) | (go_simp; rfl)); intro gb170 hg w11 hbox hb; have n0_ := Aside0.mk (Kd.R_below (Kd.R_elderB (by (with_reducible repeat (first | apply Kd.R_alloc | apply Kd.R_drewN | apply Kd.R_drew)); exact HO_5.out) gb170 (Nat.le_of_eq hg.symm)) hb); have n1_ := Aside0.mk (below_step (by repeat (first | (with_reducible first | exact HB.out | apply below_alloc | apply pw_below_drewN | apply below_drew1) | exact HB.out)) hb); have n2_ := Aside0.mk (hbox); have n3_ := Aside0.mk ((by rw [hg]; exact (below_size (by repeat (first | (with_reducible first | exact HB.out | apply below_alloc | apply pw_below_drewN | apply below_drew1) | exact HB.out))) : w.heap.size ≤ gb170)); have n4_ := Aside0.mk ((by rw [hg]; exact (below_size (by repeat (first | (with_reducible first | exact HB.out | apply below_alloc | apply pw_below_drewN | apply below_drew1) | exact HB.out))) : w.heap.size ≤ gb170)); clear HO_5; clear HB; have HO_5 := n0_; have HB := n1_; have BK170 := n2_; have GW170 := n3_; have GE170 := n4_; clear n0_ n1_ n2_ n3_ n4_; clear hb hbox hg; have hcz12_0 : w11.cell? ⟨gb170, 0, none⟩ = some (.string (⟨#[]⟩ : ByteArray)) := (blk_cell BK170.out 0).trans rfl; have hcz12_1 : w11.cell? ⟨gb170, 1, none⟩ = some (.int .i64 0) := (blk_cell BK170.out 1).trans rfl; have hfz12_0 := blk_frozen BK170.out 0; have hfz12_1 := blk_frozen BK170.out 1))
              go_roundg k1
              case measure => have := HK1.out; omega
              case rel => exact ⟨(wrap64 (x7_1 + 1)), (by first | rfl | (simp; done) | (simp [*]; done)), H', ⟨by have := HK1.out; omega⟩, ⟨by (with_reducible repeat (first | apply Kd.R_alloc | apply Kd.R_drewN | apply Kd.R_drew)); exact Kd.R_mono (Kd.R_far (p := ⟨gb170, 1, none⟩) (Kd.R_far (p := ⟨gb170, 0, none⟩) (Kd.R_mono HO_5.out (fun k_ hk => (⟨hk, hk.2⟩ : _ ∧ k_ ≠ gb170))) (fun _ hk => hk.2) (.string ((rd_T80 t166 x7_1).f0))) (fun _ hk => hk.2) (.int .i64 ((rd_T80 t166 x7_1).f1))) (fun _ hk => trivial)⟩, ⟨by repeat (first | (with_reducible first | exact HB.out | apply below_alloc | apply pw_below_drewN | apply below_drew1 | refine below_set ?_ GE170.out) | exact HB.out)⟩⟩
          · rw [if_neg c7] at H
            exact absurd H (by simp)
        · rw [if_neg c6] at H
          exact absurd H (by simp)
      · rw [if_neg c5] at H
        have c5b0 : decide (x7_1 < (t166.length : Int)) = false := decide_eq_false c5
        clear c5
        obtain rfl := Option.some.inj H
        go_wp2
        go_ret
        exact ⟨by first | rfl | (simp [errW_none, errW_some] <;> rfl) | (simp [*, errW_none, errW_some] <;> rfl), by repeat (first | (with_reducible first | exact HB.out | apply below_alloc | apply pw_below_drewN | apply below_drew1) | exact HB.out)⟩

/-! ### rectoref03_Letter: function 60 -/
def rectoref03_Letter.f (a0 : Int) : Option (Bool) := if a0 ≥ 65 then (if a0 ≤ 90 then (some true) else (if a0 ≥ 97 then (some (decide (a0 ≤ 122))) else (some false))) else (if a0 ≥ 97 then (some (decide (a0 ≤ 122))) else (some false))
set_option maxHeartbeats 8000000 in
set_option maxRecDepth 100000 in
theorem rectoref03_Letter.calls (a0 : Int) (r : Bool) (w : World) (h : rectoref03_Letter.f a0 = some r) (HG : Aside0 (Laid w)) :
    Calls Tryd.prog 60 #[.int .u8 a0] w fun e w' => e = .returned (.bool r) ∧ Drawn0 w w' := by
  have H : (if a0 ≥ 65 then (if a0 ≤ 90 then (some true) else (if a0 ≥ 97 then (some (decide (a0 ≤ 122))) else (some false))) else (if a0 ≥ 97 then (some (decide (a0 ≤ 122))) else (some false))) = some r := h
  clear h
  by_cases c2 : a0 ≥ 65
  · rw [if_pos c2] at H
    have c2b0 : decide (65 ≤ a0) = true := decide_eq_true c2
    clear c2
    by_cases c3 : a0 ≤ 90
    · rw [if_pos c3] at H
      have c3b0 : decide (a0 ≤ 90) = true := decide_eq_true c3
      clear c3
      obtain rfl := Option.some.inj H
      go_enter Tryd.func60, Tryd.ntmps60
      go_wp2
      go_ret
      exact ⟨by first | rfl | (simp; done) | (simp [*]; done), by repeat (first | exact Drawn0.refl _ | apply Drawn0.step)⟩
    · rw [if_neg c3] at H
      have c3b0 : decide (a0 ≤ 90) = false := decide_eq_false c3
      clear c3
      by_cases c4 : a0 ≥ 97
      · rw [if_pos c4] at H
        have c4b0 : decide (97 ≤ a0) = true := decide_eq_true c4
        clear c4
        obtain rfl := Option.some.inj H
        go_enter Tryd.func60, Tryd.ntmps60
        go_wp2
        go_ret
        exact ⟨by first | rfl | (simp; done) | (simp [*]; done), by repeat (first | exact Drawn0.refl _ | apply Drawn0.step)⟩
      · rw [if_neg c4] at H
        have c4b0 : decide (97 ≤ a0) = false := decide_eq_false c4
        clear c4
        obtain rfl := Option.some.inj H
        go_enter Tryd.func60, Tryd.ntmps60
        go_wp2
        go_ret
        exact ⟨by first | rfl | (simp; done) | (simp [*]; done), by repeat (first | exact Drawn0.refl _ | apply Drawn0.step)⟩
  · rw [if_neg c2] at H
    have c2b0 : decide (65 ≤ a0) = false := decide_eq_false c2
    clear c2
    by_cases c5 : a0 ≥ 97
    · rw [if_pos c5] at H
      have c5b0 : decide (97 ≤ a0) = true := decide_eq_true c5
      clear c5
      obtain rfl := Option.some.inj H
      go_enter Tryd.func60, Tryd.ntmps60
      go_wp2
      go_ret
      exact ⟨by first | rfl | (simp; done) | (simp [*]; done), by repeat (first | exact Drawn0.refl _ | apply Drawn0.step)⟩
    · rw [if_neg c5] at H
      have c5b0 : decide (97 ≤ a0) = false := decide_eq_false c5
      clear c5
      obtain rfl := Option.some.inj H
      go_enter Tryd.func60, Tryd.ntmps60
      go_wp2
      go_ret
      exact ⟨by first | rfl | (simp; done) | (simp [*]; done), by repeat (first | exact Drawn0.refl _ | apply Drawn0.step)⟩

/-! ### rectoref03_Digit: function 61 -/
def rectoref03_Digit.f (a0 : Int) : Option (Bool) := if a0 ≥ 48 then (some (decide (a0 ≤ 57))) else (some false)
set_option maxHeartbeats 8000000 in
set_option maxRecDepth 100000 in
theorem rectoref03_Digit.calls (a0 : Int) (r : Bool) (w : World) (h : rectoref03_Digit.f a0 = some r) (HG : Aside0 (Laid w)) :
    Calls Tryd.prog 61 #[.int .u8 a0] w fun e w' => e = .returned (.bool r) ∧ Drawn0 w w' := by
  have H : (if a0 ≥ 48 then (some (decide (a0 ≤ 57))) else (some false)) = some r := h
  clear h
  by_cases c2 : a0 ≥ 48
  · rw [if_pos c2] at H
    have c2b0 : decide (48 ≤ a0) = true := decide_eq_true c2
    clear c2
    obtain rfl := Option.some.inj H
    go_enter Tryd.func61, Tryd.ntmps61
    go_wp2
    go_ret
    exact ⟨by first | rfl | (simp; done) | (simp [*]; done), by repeat (first | exact Drawn0.refl _ | apply Drawn0.step)⟩
  · rw [if_neg c2] at H
    have c2b0 : decide (48 ≤ a0) = false := decide_eq_false c2
    clear c2
    obtain rfl := Option.some.inj H
    go_enter Tryd.func61, Tryd.ntmps61
    go_wp2
    go_ret
    exact ⟨by first | rfl | (simp; done) | (simp [*]; done), by repeat (first | exact Drawn0.refl _ | apply Drawn0.step)⟩

end Go.Proofs.YtenbdffgnbibeaaDoor.R
