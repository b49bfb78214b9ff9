/- Printed functions, each with a proof that the call answers so. -/
import Derived.Test.YtgopimjfoppkmaaDoorD0
import Derived.Test.YtgopimjfoppkmaaDoorD1
namespace Go.Proofs.YtgopimjfoppkmaaDoor.D
open Go.RowKit Go.Proofs.YtgopimjfoppkmaaDoorW.PrintWords Go.Proofs.YtgopimjfoppkmaaDoorW.PrintLast Go.Proofs.YtgopimjfoppkmaaDoorW.PrintMore
attribute [local go_sem] max2_int min2_int max_two min_two max_three min_three max_four min_four   -- for this text's walks alone
set_option linter.unusedVariables false
set_option linter.unusedSimpArgs false

theorem qD20 {p : Prop} (h : p := by exact Aside0.mk (by repeat (first | (with_reducible first | exact HG.out | apply Laid.drewN | apply Laid.drew) | exact HG.out))) : p := h
theorem qD21 {p : Prop} (h : p := by first | (with_reducible assumption) | assumption) : p := h
theorem qD22 {p : Prop} (h : p := by repeat (first | exact Drawn0.refl _ | apply Drawn0.step)) : p := h
theorem qD23 {p : Prop} (h : p := by first | rfl | (simp; done) | (simp [*]; done)) : p := h
theorem qD24 {p : Prop} (h : p := by (try simp only [List.map_toArray, List.map_cons, List.map_nil]); first | done | rfl | (simp only [List.length_drop, List.length_take]; rfl)) : p := h
theorem qD25 {p : Prop} (h : p := by have h_ : (t105 : Int) < 5 := of_decide_eq_true qD21; have e_ : tab_0.length = 5 := rfl; omega) : p := h
/-! ### utf_First: function 56 -/
mutual
def utf_First.j0 : Nat → ByteArray → Int → Bool → Option (Int × Int)
 | 0, _, _, _ => none
 | k + 1, x0, x4, x19 => if x19 = true then (some (65533, 1)) else (if 0 < (x0.size : Int) then (if 0 ≤ x4 then (if x4 < 5 then (utf_First.l0 k x0 x4 (wrap64 ((wrap64 (bt x0 0)) - ((rd_T83 tab_0 x4).f0))) 1) else (none)) else (none)) else (none))
def utf_First.l0 : Nat → ByteArray → Int → Int → Int → Option (Int × Int)
 | 0, _, _, _, _ => none
 | k + 1, x0, x4, x5, x6 => if x6 < x4 then (if 0 ≤ x6 then (if x6 < (x0.size : Int) then (if (Go.bits .and .u8 (bt x0 x6) 192) = 128 then (utf_First.l0 k x0 x4 (Go.bits .or .i64 (wrap64 (x5 * 64)) (wrap64 (Go.bits .and .u8 (bt x0 x6) 63))) (wrap64 (x6 + 1))) else (some (65533, 1))) else (none)) else (none)) else ((utf_is.f x5).bind fun t107 => (if t107 = true then (if 0 ≤ x4 then (if x4 < 5 then (if x5 < ((rd_T83 tab_0 x4).f1) then (some (65533, 1)) else (some (x5, x4))) else (none)) else (none)) else (some (65533, 1))))
end
def utf_First.f (k : Nat) (a0 : ByteArray) : Option (Int × Int) := if a0.toList = ([] : List UInt8) then (some (0, 0)) else (if 0 < (a0.size : Int) then ((utf_long.f k (bt a0 0)).bind fun t105 => (if t105 = 0 then (utf_First.j0 k a0 t105 true) else (utf_First.j0 k a0 t105 (decide (t105 > (a0.size : Int)))))) else (none))
theorem utf_First.mono_l : ∀ k, (∀ y0 y1 y2, LeO (utf_First.j0 k y0 y1 y2) (utf_First.j0 (k + 1) y0 y1 y2)) ∧ (∀ y0 y1 y2 y3, LeO (utf_First.l0 k y0 y1 y2 y3) (utf_First.l0 (k + 1) y0 y1 y2 y3))
 | 0 => ⟨fun _ _ _ r h => by simp [utf_First.j0] at h, fun _ _ _ _ r h => by simp [utf_First.l0] at h⟩
 | k + 1 => by
  obtain ⟨ih0, ih1⟩ := utf_First.mono_l k
  refine ⟨?_, ?_⟩
  · intro y0 y1 y2
    unfold utf_First.j0
    repeat' first
    | (with_reducible exact ih0 _ _ _)
    | (with_reducible exact ih1 _ _ _ _)
    | (with_reducible exact utf_long.mono _ _)
    | (with_reducible exact LeO.refl _)
    | (with_reducible exact LeO.none _)
    | (with_reducible refine LeO.ite ?_ ?_)
    | (with_reducible refine LeO.bind ?_ (fun _ => ?_))
    | exact ih0 _ _ _
    | exact ih1 _ _ _ _
    | exact utf_long.mono _ _
    | exact LeO.none _
    | refine LeO.ite ?_ ?_
    | refine LeO.bind ?_ (fun _ => ?_)
  · intro y0 y1 y2 y3
    unfold utf_First.l0
    repeat' first
    | (with_reducible exact ih0 _ _ _)
    | (with_reducible exact ih1 _ _ _ _)
    | (with_reducible exact utf_long.mono _ _)
    | (with_reducible exact LeO.refl _)
    | (with_reducible exact LeO.none _)
    | (with_reducible refine LeO.ite ?_ ?_)
    | (with_reducible refine LeO.bind ?_ (fun _ => ?_))
    | exact ih0 _ _ _
    | exact ih1 _ _ _ _
    | exact utf_long.mono _ _
    | exact LeO.none _
    | refine LeO.ite ?_ ?_
    | refine LeO.bind ?_ (fun _ => ?_)
theorem utf_First.mono : ∀ a0 k, LeO (utf_First.f k a0) (utf_First.f (k + 1) a0) := by
 intro a0 k
 obtain ⟨ih0, ih1⟩ := utf_First.mono_l k; unfold utf_First.f
 repeat' first
  | (with_reducible exact ih0 _ _ _)
  | (with_reducible exact ih1 _ _ _ _)
  | (with_reducible exact utf_long.mono _ _)
  | (with_reducible exact LeO.refl _)
  | (with_reducible exact LeO.none _)
  | (with_reducible refine LeO.ite ?_ ?_)
  | (with_reducible refine LeO.bind ?_ (fun _ => ?_))
  | exact ih0 _ _ _
  | exact ih1 _ _ _ _
  | exact utf_long.mono _ _
  | exact LeO.none _
  | refine LeO.ite ?_ ?_
  | refine LeO.bind ?_ (fun _ => ?_)
set_option maxHeartbeats 8000000 in
set_option maxRecDepth 100000 in
theorem utf_First.calls (k : Nat) (a0 : ByteArray) (r1 : Int) (r2 : Int) (w : World) (h : utf_First.f k a0 = some (r1, r2)) (HG : Aside0 (Laid w)) :
 Calls Tryd.prog 56 #[.string a0] w fun e w' => e = .returned (.tuple #[.int .i64 r1, .int .i64 r2]) ∧ Drawn0 w w' := by
 have HRG0 := Aside0.mk (tab_0_C HG.out)
 have H : (if a0.toList = ([] : List UInt8) then (some (0, 0)) else (if 0 < (a0.size : Int) then ((utf_long.f k (bt a0 0)).bind fun t105 => (if t105 = 0 then (utf_First.j0 k a0 t105 true) else (utf_First.j0 k a0 t105 (decide (t105 > (a0.size : Int)))))) else (none))) = some (r1, r2) := h
 clear h
 by_cases c2 : a0.toList = ([] : List UInt8)
 · rw [if_pos c2] at H
   have c2b0 : (a0.toList == ([] : List UInt8)) = true := beq_iff_eq.mpr c2; have c2b1 : (a0.toList != ([] : List UInt8)) = false := bne_eq_false_iff_eq.mpr c2; clear c2; simp only [Option.some.injEq, Prod.mk.injEq] at H; obtain ⟨rfl, rfl⟩ := H
   go_enter Tryd.func56, Tryd.ntmps56
   go_wp2
   repeat (go_quiet (fail); try go_wp2)
   go_ret2
   exact ⟨qD23, qD22⟩
 · rw [if_neg c2] at H
   have c2b0 : (a0.toList == ([] : List UInt8)) = false := beq_eq_false_iff_ne.mpr c2; have c2b1 : (a0.toList != ([] : List UInt8)) = true := bne_iff_ne.mpr c2
   by_cases c3 : 0 < (a0.size : Int)
   · rw [if_pos c3] at H
     have c3b0 : decide (0 < (a0.size : Int)) = true := decide_eq_true c3; have c3b1 : decide (0 < a0.size) = true := decide_eq_true (by omega); clear c3; replace H := Option.bind_eq_some_iff.mp H; obtain ⟨t105, A50, H⟩ := H
     replace H : (if t105 = 0 then (utf_First.j0 k a0 t105 true) else (utf_First.j0 k a0 t105 (decide (t105 > (a0.size : Int))))) = some (r1, r2) := H
     have A5 := Aside0.mk A50; clear A50; have HC6 := Aside0.mk H; clear H; have p4 : 0 ≤ (0 : Int) := (by omega); have q4 : 0 < a0.size := (by have : (0 : Int) < (a0.size : Int) := of_decide_eq_true qD21; omega); have hx4 : ∀ h : 0 < a0.size, ((a0[0]'h).toNat : Int) = bt a0 0 := bt_at a0 0; clear p4; have qi4 : (0 < (a0.size : Int)) = True := eq_true (of_decide_eq_true qD21); replace q4 := eq_true q4
     go_enter Tryd.func56, Tryd.ntmps56
     go_upto_region 4 with (first | (go_at_call 60; (with_reducible refine (utf_long.calls k (bt a0 0) t105 _ A5.out ?side1).mono ?_); (case side1 => exact qD20); rintro e w' ⟨rfl, ⟨nd, rfl⟩⟩; (try first | exact ⟨rfl, _, World.drewN_drewN _ _ _⟩ | exact ⟨rfl, _, Eq.trans (World.drewN_drewN _ _ _) (congrArg (World.drewN _) (Nat.add_assoc _ _ _))⟩)))
     repeat (go_quiet (first | (go_at_call 60; (with_reducible refine (utf_long.calls k (bt a0 0) t105 _ A5.out ?side1).mono ?_); (case side1 => exact qD20); rintro e w' ⟨rfl, ⟨nd, rfl⟩⟩; (try first | exact ⟨rfl, _, World.drewN_drewN _ _ _⟩ | exact ⟨rfl, _, Eq.trans (World.drewN_drewN _ _ _) (congrArg (World.drewN _) (Nat.add_assoc _ _ _))⟩))); go_upto_region 4 with (first | (go_at_call 60; (with_reducible refine (utf_long.calls k (bt a0 0) t105 _ A5.out ?side1).mono ?_); (case side1 => exact qD20); rintro e w' ⟨rfl, ⟨nd, rfl⟩⟩; (try first | exact ⟨rfl, _, World.drewN_drewN _ _ _⟩ | exact ⟨rfl, _, Eq.trans (World.drewN_drewN _ _ _) (congrArg (World.drewN _) (Nat.add_assoc _ _ _))⟩))))
     (try simp only [Act.put, List.setIfInBounds_toArray, List.set_cons_zero, List.set_cons_succ])
     go_cut [19] (fun v19 wc => ∃ (kq : Nat) (x19_5 : Bool), v19 = .bool x19_5 ∧ Aside0 (utf_First.j0 kq a0 t105 x19_5 = some (r1, r2)) ∧ Aside0 (kq ≤ k) ∧ Drawn0 w wc)
     case first =>
      have H := HC6.out; clear HC6
      by_cases c7 : t105 = 0
      · rw [if_pos c7] at H
        have c7b0 : (t105 == 0) = true := beq_iff_eq.mpr c7; have c7b1 : (t105 != 0) = false := bne_eq_false_iff_eq.mpr c7; clear c7
        (first | rw [c7b0] | (simp only [i64_w, i32_w]; rw [c7b0]) | skip)
        have H' := Aside0.mk H; clear H
        go_wp2
        repeat (go_quiet (fail); try go_wp2)
        go_meet
        case rel => exact ⟨_, (true), qD23, H', ⟨by first | omega | exact Nat.le_refl _⟩, qD22⟩
      · rw [if_neg c7] at H
        have c7b0 : (t105 == 0) = false := beq_eq_false_iff_ne.mpr c7; have c7b1 : (t105 != 0) = true := bne_iff_ne.mpr c7
        (first | rw [c7b0] | (simp only [i64_w, i32_w]; rw [c7b0]) | skip)
        have H' := Aside0.mk H; clear H
        go_wp2
        repeat (go_quiet (fail); try go_wp2)
        go_meet
        case rel => exact ⟨_, (decide (t105 > (a0.size : Int))), qD23, H', ⟨by first | omega | exact Nat.le_refl _⟩, qD22⟩
     case rest =>
      clear HC6; (try clear c2); (try clear c2b0); (try clear c2b1); (try clear p2); (try clear c3); (try clear c3b0); (try clear c3b1); (try clear p4); (try clear q4); (try clear hx4); (try clear qi4); (try clear c5); (try clear c7); (try clear c7b0); (try clear c7b1); (try clear p4); (try clear q4); obtain ⟨kq, x19_5, rfl, HA, HJ5, ⟨mc5, rfl⟩⟩ := hcut
      cases kq with
      | zero => exact absurd HA.out (by simp [utf_First.j0])
      | succ kj5 =>
       have H := HA.out; clear HA; simp only [utf_First.j0] at H
       by_cases c8 : x19_5 = true
       · subst c8
         have H1 : (some (65533, 1)) = some (r1, r2) := by rw [if_pos rfl] at H; exact H
         clear H; have H := H1; clear H1; simp only [Option.some.injEq, Prod.mk.injEq] at H; obtain ⟨rfl, rfl⟩ := H
         go_wp2
         repeat (go_quiet (fail); try go_wp2)
         go_ret2
         exact ⟨qD23, qD22⟩
       · replace c8 := Bool.eq_false_iff.mpr c8
         subst c8
         have H1 : (if 0 < (a0.size : Int) then (if 0 ≤ t105 then (if t105 < 5 then (utf_First.l0 kj5 a0 t105 (wrap64 ((wrap64 (bt a0 0)) - ((rd_T83 tab_0 t105).f0))) 1) else (none)) else (none)) else (none)) = some (r1, r2) := by rw [if_neg (show ¬ (false = true) by decide)] at H; exact H
         clear H; have H := H1; clear H1
         by_cases c9 : 0 < (a0.size : Int)
         · rw [if_pos c9] at H
           have c9b0 : decide (0 < (a0.size : Int)) = true := decide_eq_true c9; have c9b1 : decide (0 < a0.size) = true := decide_eq_true (by omega); clear c9
           by_cases c11 : 0 ≤ t105
           · rw [if_pos c11] at H
             have c11b0 : decide (0 ≤ t105) = true := decide_eq_true c11; clear c11
             by_cases c12 : t105 < 5
             · rw [if_pos c12] at H
               have c12b0 : decide (t105 < 5) = true := decide_eq_true c12; clear c12; have H' := Aside0.mk H; clear H; have p10 : 0 ≤ (0 : Int) := (by omega); have q10 : 0 < a0.size := (by have : (0 : Int) < (a0.size : Int) := of_decide_eq_true qD21; omega); have hx10 : ∀ h : 0 < a0.size, ((a0[0]'h).toNat : Int) = bt a0 0 := bt_at a0 0; clear p10; have qi10 : (0 < (a0.size : Int)) = True := eq_true (of_decide_eq_true qD21); replace q10 := eq_true q10; have p106 : 0 ≤ (t105 : Int) := of_decide_eq_true qD21; have qt106 : (t105 < 5) = True := eq_true (of_decide_eq_true qD21); have q106 : t105 < (tab_0.length : Int) := qD25; obtain ⟨ad106, e106, hx106_0, hx106_1⟩ := at_T83 HRG0.out t105 p106 q106; obtain rfl : (⟨0, 0, none⟩ : Addr) = ad106 := (by injection e106)
               (first | simp only [add_plain] at hx106_0 | simp only [add_at] at hx106_0 | simp only [Addr.add, Nat.zero_add] at hx106_0 | skip)
               (first | simp only [add_plain] at hx106_1 | simp only [add_at] at hx106_1 | simp only [Addr.add, Nat.zero_add] at hx106_1 | skip)
               replace p106 := eq_true p106; replace q106 := eq_true q106
               go_wp2
               repeat (go_quiet (fail); try go_wp2)
               go_loopg [5, 6] kj5 (fun kq v5 v6 w' => ∃ (x5_2 : Int) (x6_2 : Int), v5 = .int .i64 x5_2 ∧ v6 = .int .i64 x6_2 ∧ Aside0 (utf_First.l0 kq a0 t105 x5_2 x6_2 = some (r1, r2)) ∧ Aside0 (kq ≤ kj5) ∧ Drawn0 w w')
               case atStart => exact ⟨(wrap64 ((wrap64 (bt a0 0)) - ((rd_T83 tab_0 t105).f0))), (1), qD23, qD23, H', ⟨Nat.le_refl _⟩, qD22⟩
               case round =>
                clear H'; (try clear c1); (try clear p1); (try clear q1); (try clear hx1); (try clear qi1); (try clear c2); (try clear c2b0); (try clear c2b1); (try clear p2); (try clear c3); (try clear c3b0); (try clear c3b1); (try clear p4); (try clear q4); (try clear hx4); (try clear qi4); (try clear c5); (try clear p6); (try clear c7); (try clear c7b0); (try clear c7b1); (try clear c8); (try clear c9); (try clear c9b0); (try clear c9b1); (try clear p10); (try clear q10); (try clear hx10); (try clear qi10); (try clear c11); (try clear c11b0); (try clear c12); (try clear c12b0); (try clear hx106_0); (try clear hx106_1); (try clear p10); (try clear p106); (try clear p2); (try clear p4); (try clear q10); (try clear q106); (try clear q4); obtain ⟨x5_2, x6_2, rfl, rfl, HA, HK2, ⟨m2, rfl⟩⟩ := hrel
                cases gk with
                | zero => exact absurd HA.out (by simp [utf_First.l0])
                | succ k2 =>
                 have H := HA.out; clear HA; simp only [utf_First.l0] at H
                 by_cases c13 : x6_2 < t105
                 · rw [if_pos c13] at H
                   have c13b0 : decide (x6_2 < t105) = true := decide_eq_true c13; clear c13
                   by_cases c14 : 0 ≤ x6_2
                   · rw [if_pos c14] at H
                     have c14b0 : decide (0 ≤ x6_2) = true := decide_eq_true c14; clear c14
                     by_cases c15 : x6_2 < (a0.size : Int)
                     · rw [if_pos c15] at H
                       have c15b0 : decide (x6_2 < (a0.size : Int)) = true := decide_eq_true c15; clear c15
                       by_cases c17 : (Go.bits .and .u8 (bt a0 x6_2) 192) = 128
                       · rw [if_pos c17] at H
                         have c17b0 : ((Go.bits .and .u8 (bt a0 x6_2) 192) == 128) = true := beq_iff_eq.mpr c17; have c17b1 : ((Go.bits .and .u8 (bt a0 x6_2) 192) != 128) = false := bne_eq_false_iff_eq.mpr c17; clear c17; have H' := Aside0.mk H; clear H; have p16 : 0 ≤ (x6_2 : Int) := of_decide_eq_true qD21; have q16 : x6_2 < (a0.size : Int) := of_decide_eq_true qD21; have hx16 := bt_at a0 x6_2; replace p16 := eq_true p16; replace q16 := eq_true q16; have p18 : 0 ≤ (x6_2 : Int) := of_decide_eq_true qD21; have q18 : x6_2 < (a0.size : Int) := of_decide_eq_true qD21; have hx18 := bt_at a0 x6_2; replace p18 := eq_true p18; replace q18 := eq_true q18
                         go_wp2
                         repeat (go_quiet (fail); try go_wp2)
                         go_roundg k2
                         case measure => have := HJ5.out; have := HK2.out; omega
                         case rel => exact ⟨(Go.bits .or .i64 (wrap64 (x5_2 * 64)) (wrap64 (Go.bits .and .u8 (bt a0 x6_2) 63))), (wrap64 (x6_2 + 1)), qD23, qD23, H', ⟨by have := HJ5.out; have := HK2.out; omega⟩, qD22⟩
                       · rw [if_neg c17] at H
                         have c17b0 : ((Go.bits .and .u8 (bt a0 x6_2) 192) == 128) = false := beq_eq_false_iff_ne.mpr c17; have c17b1 : ((Go.bits .and .u8 (bt a0 x6_2) 192) != 128) = true := bne_iff_ne.mpr c17; simp only [Option.some.injEq, Prod.mk.injEq] at H; obtain ⟨rfl, rfl⟩ := H; have p16 : 0 ≤ (x6_2 : Int) := of_decide_eq_true qD21; have q16 : x6_2 < (a0.size : Int) := of_decide_eq_true qD21; have hx16 := bt_at a0 x6_2; replace p16 := eq_true p16; replace q16 := eq_true q16
                         go_wp2
                         repeat (go_quiet (fail); try go_wp2)
                         go_ret2
                         exact ⟨qD23, qD22⟩
                     · rw [if_neg c15] at H
                       exact absurd H (by simp)
                   · rw [if_neg c14] at H
                     exact absurd H (by simp)
                 · rw [if_neg c13] at H
                   have c13b0 : decide (x6_2 < t105) = false := decide_eq_false c13; clear c13; replace H := Option.bind_eq_some_iff.mp H; obtain ⟨t107, A190, H⟩ := H
                   replace H : (if t107 = true then (if 0 ≤ t105 then (if t105 < 5 then (if x5_2 < ((rd_T83 tab_0 t105).f1) then (some (65533, 1)) else (some (x5_2, t105))) else (none)) else (none)) else (some (65533, 1))) = some (r1, r2) := H
                   have A19 := Aside0.mk A190; clear A190
                   by_cases c20 : t107 = true
                   · subst c20
                     have H1 : (if 0 ≤ t105 then (if t105 < 5 then (if x5_2 < ((rd_T83 tab_0 t105).f1) then (some (65533, 1)) else (some (x5_2, t105))) else (none)) else (none)) = some (r1, r2) := by rw [if_pos rfl] at H; exact H
                     clear H; have H := H1; clear H1
                     by_cases c21 : 0 ≤ t105
                     · rw [if_pos c21] at H
                       have c21b0 : decide (0 ≤ t105) = true := decide_eq_true c21; clear c21
                       by_cases c22 : t105 < 5
                       · rw [if_pos c22] at H
                         have c22b0 : decide (t105 < 5) = true := decide_eq_true c22; clear c22
                         by_cases c23 : x5_2 < ((rd_T83 tab_0 t105).f1)
                         · rw [if_pos c23] at H
                           have c23b0 : decide (x5_2 < ((rd_T83 tab_0 t105).f1)) = true := decide_eq_true c23; clear c23; simp only [Option.some.injEq, Prod.mk.injEq] at H; obtain ⟨rfl, rfl⟩ := H
                           go_wp2_with (first | (go_at_call 61; (with_reducible refine (utf_is.calls x5_2 true _ A19.out ?side1).mono ?_); (case side1 => exact qD20); rintro e w' ⟨rfl, ⟨nd, rfl⟩⟩; (try first | exact ⟨rfl, _, World.drewN_drewN _ _ _⟩ | exact ⟨rfl, _, Eq.trans (World.drewN_drewN _ _ _) (congrArg (World.drewN _) (Nat.add_assoc _ _ _))⟩); have p108 : 0 ≤ (t105 : Int) := of_decide_eq_true qD21; have qt108 : (t105 < 5) = True := eq_true (of_decide_eq_true qD21); have q108 : t105 < (tab_0.length : Int) := qD25; obtain ⟨ad108, e108, hx108_0, hx108_1⟩ := at_T83 HRG0.out t105 p108 q108; obtain rfl : (⟨0, 0, none⟩ : Addr) = ad108 := (by injection e108); (first | simp only [add_plain] at hx108_0 | simp only [add_at] at hx108_0 | simp only [Addr.add, Nat.zero_add] at hx108_0 | skip); (first | simp only [add_plain] at hx108_1 | simp only [add_at] at hx108_1 | simp only [Addr.add, Nat.zero_add] at hx108_1 | skip); replace p108 := eq_true p108; replace q108 := eq_true q108))
                           repeat (go_quiet (first | (go_at_call 61; (with_reducible refine (utf_is.calls x5_2 true _ A19.out ?side1).mono ?_); (case side1 => exact qD20); rintro e w' ⟨rfl, ⟨nd, rfl⟩⟩; (try first | exact ⟨rfl, _, World.drewN_drewN _ _ _⟩ | exact ⟨rfl, _, Eq.trans (World.drewN_drewN _ _ _) (congrArg (World.drewN _) (Nat.add_assoc _ _ _))⟩); have p108 : 0 ≤ (t105 : Int) := of_decide_eq_true qD21; have qt108 : (t105 < 5) = True := eq_true (of_decide_eq_true qD21); have q108 : t105 < (tab_0.length : Int) := qD25; obtain ⟨ad108, e108, hx108_0, hx108_1⟩ := at_T83 HRG0.out t105 p108 q108; obtain rfl : (⟨0, 0, none⟩ : Addr) = ad108 := (by injection e108); (first | simp only [add_plain] at hx108_0 | simp only [add_at] at hx108_0 | simp only [Addr.add, Nat.zero_add] at hx108_0 | skip); (first | simp only [add_plain] at hx108_1 | simp only [add_at] at hx108_1 | simp only [Addr.add, Nat.zero_add] at hx108_1 | skip); replace p108 := eq_true p108; replace q108 := eq_true q108)); try go_wp2_with (first | (go_at_call 61; (with_reducible refine (utf_is.calls x5_2 true _ A19.out ?side1).mono ?_); (case side1 => exact qD20); rintro e w' ⟨rfl, ⟨nd, rfl⟩⟩; (try first | exact ⟨rfl, _, World.drewN_drewN _ _ _⟩ | exact ⟨rfl, _, Eq.trans (World.drewN_drewN _ _ _) (congrArg (World.drewN _) (Nat.add_assoc _ _ _))⟩); have p108 : 0 ≤ (t105 : Int) := of_decide_eq_true qD21; have qt108 : (t105 < 5) = True := eq_true (of_decide_eq_true qD21); have q108 : t105 < (tab_0.length : Int) := qD25; obtain ⟨ad108, e108, hx108_0, hx108_1⟩ := at_T83 HRG0.out t105 p108 q108; obtain rfl : (⟨0, 0, none⟩ : Addr) = ad108 := (by injection e108); (first | simp only [add_plain] at hx108_0 | simp only [add_at] at hx108_0 | simp only [Addr.add, Nat.zero_add] at hx108_0 | skip); (first | simp only [add_plain] at hx108_1 | simp only [add_at] at hx108_1 | simp only [Addr.add, Nat.zero_add] at hx108_1 | skip); replace p108 := eq_true p108; replace q108 := eq_true q108)))
                           go_ret2
                           exact ⟨qD23, qD22⟩
                         · rw [if_neg c23] at H
                           have c23b0 : decide (x5_2 < ((rd_T83 tab_0 t105).f1)) = false := decide_eq_false c23; clear c23; simp only [Option.some.injEq, Prod.mk.injEq] at H; obtain ⟨rfl, rfl⟩ := H
                           go_wp2_with (first | (go_at_call 61; (with_reducible refine (utf_is.calls x5_2 true _ A19.out ?side1).mono ?_); (case side1 => exact qD20); rintro e w' ⟨rfl, ⟨nd, rfl⟩⟩; (try first | exact ⟨rfl, _, World.drewN_drewN _ _ _⟩ | exact ⟨rfl, _, Eq.trans (World.drewN_drewN _ _ _) (congrArg (World.drewN _) (Nat.add_assoc _ _ _))⟩); have p108 : 0 ≤ (t105 : Int) := of_decide_eq_true qD21; have qt108 : (t105 < 5) = True := eq_true (of_decide_eq_true qD21); have q108 : t105 < (tab_0.length : Int) := qD25; obtain ⟨ad108, e108, hx108_0, hx108_1⟩ := at_T83 HRG0.out t105 p108 q108; obtain rfl : (⟨0, 0, none⟩ : Addr) = ad108 := (by injection e108); (first | simp only [add_plain] at hx108_0 | simp only [add_at] at hx108_0 | simp only [Addr.add, Nat.zero_add] at hx108_0 | skip); (first | simp only [add_plain] at hx108_1 | simp only [add_at] at hx108_1 | simp only [Addr.add, Nat.zero_add] at hx108_1 | skip); replace p108 := eq_true p108; replace q108 := eq_true q108))
                           repeat (go_quiet (first | (go_at_call 61; (with_reducible refine (utf_is.calls x5_2 true _ A19.out ?side1).mono ?_); (case side1 => exact qD20); rintro e w' ⟨rfl, ⟨nd, rfl⟩⟩; (try first | exact ⟨rfl, _, World.drewN_drewN _ _ _⟩ | exact ⟨rfl, _, Eq.trans (World.drewN_drewN _ _ _) (congrArg (World.drewN _) (Nat.add_assoc _ _ _))⟩); have p108 : 0 ≤ (t105 : Int) := of_decide_eq_true qD21; have qt108 : (t105 < 5) = True := eq_true (of_decide_eq_true qD21); have q108 : t105 < (tab_0.length : Int) := qD25; obtain ⟨ad108, e108, hx108_0, hx108_1⟩ := at_T83 HRG0.out t105 p108 q108; obtain rfl : (⟨0, 0, none⟩ : Addr) = ad108 := (by injection e108); (first | simp only [add_plain] at hx108_0 | simp only [add_at] at hx108_0 | simp only [Addr.add, Nat.zero_add] at hx108_0 | skip); (first | simp only [add_plain] at hx108_1 | simp only [add_at] at hx108_1 | simp only [Addr.add, Nat.zero_add] at hx108_1 | skip); replace p108 := eq_true p108; replace q108 := eq_true q108)); try go_wp2_with (first | (go_at_call 61; (with_reducible refine (utf_is.calls x5_2 true _ A19.out ?side1).mono ?_); (case side1 => exact qD20); rintro e w' ⟨rfl, ⟨nd, rfl⟩⟩; (try first | exact ⟨rfl, _, World.drewN_drewN _ _ _⟩ | exact ⟨rfl, _, Eq.trans (World.drewN_drewN _ _ _) (congrArg (World.drewN _) (Nat.add_assoc _ _ _))⟩); have p108 : 0 ≤ (t105 : Int) := of_decide_eq_true qD21; have qt108 : (t105 < 5) = True := eq_true (of_decide_eq_true qD21); have q108 : t105 < (tab_0.length : Int) := qD25; obtain ⟨ad108, e108, hx108_0, hx108_1⟩ := at_T83 HRG0.out t105 p108 q108; obtain rfl : (⟨0, 0, none⟩ : Addr) = ad108 := (by injection e108); (first | simp only [add_plain] at hx108_0 | simp only [add_at] at hx108_0 | simp only [Addr.add, Nat.zero_add] at hx108_0 | skip); (first | simp only [add_plain] at hx108_1 | simp only [add_at] at hx108_1 | simp only [Addr.add, Nat.zero_add] at hx108_1 | skip); replace p108 := eq_true p108; replace q108 := eq_true q108)))
                           go_ret2
                           exact ⟨qD23, qD22⟩
                       · rw [if_neg c22] at H
                         exact absurd H (by simp)
                     · rw [if_neg c21] at H
                       exact absurd H (by simp)
                   · replace c20 := Bool.eq_false_iff.mpr c20
                     subst c20
                     have H1 : (some (65533, 1)) = some (r1, r2) := by rw [if_neg (show ¬ (false = true) by decide)] at H; exact H
                     clear H; have H := H1; clear H1; simp only [Option.some.injEq, Prod.mk.injEq] at H; obtain ⟨rfl, rfl⟩ := H
                     go_wp2_with (first | (go_at_call 61; (with_reducible refine (utf_is.calls x5_2 false _ A19.out ?side1).mono ?_); (case side1 => exact qD20); rintro e w' ⟨rfl, ⟨nd, rfl⟩⟩; (try first | exact ⟨rfl, _, World.drewN_drewN _ _ _⟩ | exact ⟨rfl, _, Eq.trans (World.drewN_drewN _ _ _) (congrArg (World.drewN _) (Nat.add_assoc _ _ _))⟩)))
                     repeat (go_quiet (first | (go_at_call 61; (with_reducible refine (utf_is.calls x5_2 false _ A19.out ?side1).mono ?_); (case side1 => exact qD20); rintro e w' ⟨rfl, ⟨nd, rfl⟩⟩; (try first | exact ⟨rfl, _, World.drewN_drewN _ _ _⟩ | exact ⟨rfl, _, Eq.trans (World.drewN_drewN _ _ _) (congrArg (World.drewN _) (Nat.add_assoc _ _ _))⟩))); try go_wp2_with (first | (go_at_call 61; (with_reducible refine (utf_is.calls x5_2 false _ A19.out ?side1).mono ?_); (case side1 => exact qD20); rintro e w' ⟨rfl, ⟨nd, rfl⟩⟩; (try first | exact ⟨rfl, _, World.drewN_drewN _ _ _⟩ | exact ⟨rfl, _, Eq.trans (World.drewN_drewN _ _ _) (congrArg (World.drewN _) (Nat.add_assoc _ _ _))⟩))))
                     go_ret2
                     exact ⟨qD23, qD22⟩
             · rw [if_neg c12] at H
               exact absurd H (by simp)
           · rw [if_neg c11] at H
             exact absurd H (by simp)
         · rw [if_neg c9] at H
           exact absurd H (by simp)
   · rw [if_neg c3] at H
     exact absurd H (by simp)

/-! ### utf_strange: function 55 -/
def utf_strange.f (k : Nat) (a0 : ByteArray) : Option (Bool) := (utf_First.f k a0).bind fun bt109 => (if bt109.1 = 65533 then (some (bt109.2 == 1)) else (some false))
theorem utf_strange.mono : ∀ a0 k, LeO (utf_strange.f k a0) (utf_strange.f (k + 1) a0) := by
 intro a0 k
 unfold utf_strange.f
 repeat' first
  | (with_reducible exact utf_First.mono _ _)
  | (with_reducible exact LeO.refl _)
  | (with_reducible exact LeO.none _)
  | (with_reducible refine LeO.ite ?_ ?_)
  | (with_reducible refine LeO.bind ?_ (fun _ => ?_))
  | exact utf_First.mono _ _
  | exact LeO.none _
  | refine LeO.ite ?_ ?_
  | refine LeO.bind ?_ (fun _ => ?_)
set_option maxHeartbeats 8000000 in
set_option maxRecDepth 100000 in
theorem utf_strange.calls (k : Nat) (a0 : ByteArray) (r : Bool) (w : World) (h : utf_strange.f k a0 = some r) (HG : Aside0 (Laid w)) :
 Calls Tryd.prog 55 #[.string a0] w fun e w' => e = .returned (.bool r) ∧ Drawn0 w w' := by
 have H : ((utf_First.f k a0).bind fun bt109 => (if bt109.1 = 65533 then (some (bt109.2 == 1)) else (some false))) = some r := h
 clear h; replace H := Option.bind_eq_some_iff.mp H; obtain ⟨⟨t109, t110⟩, A20, H⟩ := H
 replace H : (if t109 = 65533 then (some (t110 == 1)) else (some false)) = some r := H
 have A2 := Aside0.mk A20; clear A20
 by_cases c3 : t109 = 65533
 · rw [if_pos c3] at H
   have c3b0 : (t109 == 65533) = true := beq_iff_eq.mpr c3; have c3b1 : (t109 != 65533) = false := bne_eq_false_iff_eq.mpr c3; clear c3; obtain rfl := Option.some.inj H
   go_enter Tryd.func55, Tryd.ntmps55
   go_wp2_with (first | ((with_reducible refine gate_callee (f := 56) rfl ?_); refine goesL_ (some 7) rfl rfl Tryd.func56 (by kernel_rfl) rfl #[.string a0] rfl qD24 ?_; (with_reducible refine (utf_First.calls k a0 t109 t110 _ A2.out ?side1).mono ?_); (case side1 => exact qD20); rintro e w' ⟨rfl, ⟨nd, rfl⟩⟩; refine ⟨_, rfl, ?_⟩))
   go_ret
   exact ⟨qD23, qD22⟩
 · rw [if_neg c3] at H
   have c3b0 : (t109 == 65533) = false := beq_eq_false_iff_ne.mpr c3; have c3b1 : (t109 != 65533) = true := bne_iff_ne.mpr c3; obtain rfl := Option.some.inj H
   go_enter Tryd.func55, Tryd.ntmps55
   go_wp2_with (first | ((with_reducible refine gate_callee (f := 56) rfl ?_); refine goesL_ (some 7) rfl rfl Tryd.func56 (by kernel_rfl) rfl #[.string a0] rfl qD24 ?_; (with_reducible refine (utf_First.calls k a0 t109 t110 _ A2.out ?side1).mono ?_); (case side1 => exact qD20); rintro e w' ⟨rfl, ⟨nd, rfl⟩⟩; refine ⟨_, rfl, ?_⟩))
   go_ret
   exact ⟨qD23, qD22⟩

/-! ### utf_Right: function 50 -/
def utf_Right.l0 : Nat → ByteArray → Option (Bool)
 | 0, _ => none
 | k + 1, x0 => if x0.toList = ([] : List UInt8) then (some true) else ((utf_strange.f k x0).bind fun t111 => (if t111 = true then (some false) else ((utf_First.f k x0).bind fun bt112 => (if 0 ≤ bt112.2 then (if bt112.2 ≤ (x0.size : Int) then (utf_Right.l0 k (x0.extract (bt112.2 : Int).toNat x0.size)) else (none)) else (none)))))
def utf_Right.f (k : Nat) (a0 : ByteArray) : Option (Bool) := utf_Right.l0 k a0
theorem utf_Right.mono_l : ∀ k, (∀ y0, LeO (utf_Right.l0 k y0) (utf_Right.l0 (k + 1) y0))
 | 0 => fun _ r h => by simp [utf_Right.l0] at h
 | k + 1 => by
  have ih0 := utf_Right.mono_l k
  · intro y0
    unfold utf_Right.l0
    repeat' first
    | (with_reducible exact ih0 _)
    | (with_reducible exact utf_First.mono _ _)
    | (with_reducible exact utf_strange.mono _ _)
    | (with_reducible exact LeO.refl _)
    | (with_reducible exact LeO.none _)
    | (with_reducible refine LeO.ite ?_ ?_)
    | (with_reducible refine LeO.bind ?_ (fun _ => ?_))
    | exact ih0 _
    | exact utf_First.mono _ _
    | exact utf_strange.mono _ _
    | exact LeO.none _
    | refine LeO.ite ?_ ?_
    | refine LeO.bind ?_ (fun _ => ?_)
theorem utf_Right.mono : ∀ a0 k, LeO (utf_Right.f k a0) (utf_Right.f (k + 1) a0) := by
 intro a0 k
 have ih0 := utf_Right.mono_l k; unfold utf_Right.f
 repeat' first
  | (with_reducible exact ih0 _)
  | (with_reducible exact utf_First.mono _ _)
  | (with_reducible exact utf_strange.mono _ _)
  | (with_reducible exact LeO.refl _)
  | (with_reducible exact LeO.none _)
  | (with_reducible refine LeO.ite ?_ ?_)
  | (with_reducible refine LeO.bind ?_ (fun _ => ?_))
  | exact ih0 _
  | exact utf_First.mono _ _
  | exact utf_strange.mono _ _
  | exact LeO.none _
  | refine LeO.ite ?_ ?_
  | refine LeO.bind ?_ (fun _ => ?_)
set_option maxHeartbeats 8000000 in
set_option maxRecDepth 100000 in
theorem utf_Right.calls (k : Nat) (a0 : ByteArray) (r : Bool) (w : World) (h : utf_Right.f k a0 = some r) (HG : Aside0 (Laid w)) :
 Calls Tryd.prog 50 #[.string a0] w fun e w' => e = .returned (.bool r) ∧ Drawn0 w w' := by
 have H : (utf_Right.l0 k a0) = some r := h; clear h; have H' := Aside0.mk H; clear H
 go_enter Tryd.func50, Tryd.ntmps50
 go_wp2
 go_loopg [0] k (fun kq v0 w' => ∃ (x0_1 : ByteArray), v0 = .string x0_1 ∧ Aside0 (utf_Right.l0 kq x0_1 = some r) ∧ Aside0 (kq ≤ k) ∧ Drawn0 w w')
 case atStart => exact ⟨(a0), qD23, H', ⟨Nat.le_refl _⟩, qD22⟩
 case round =>
  clear H'; obtain ⟨x0_1, rfl, HA, HK1, ⟨m1, rfl⟩⟩ := hrel
  cases gk with
  | zero => exact absurd HA.out (by simp [utf_Right.l0])
  | succ k1 =>
   have H := HA.out; clear HA; simp only [utf_Right.l0] at H
   by_cases c2 : x0_1.toList = ([] : List UInt8)
   · rw [if_pos c2] at H
     have c2b0 : (x0_1.toList == ([] : List UInt8)) = true := beq_iff_eq.mpr c2; have c2b1 : (x0_1.toList != ([] : List UInt8)) = false := bne_eq_false_iff_eq.mpr c2; clear c2; obtain rfl := Option.some.inj H
     go_wp2
     go_ret
     exact ⟨qD23, qD22⟩
   · rw [if_neg c2] at H
     have c2b0 : (x0_1.toList == ([] : List UInt8)) = false := beq_eq_false_iff_ne.mpr c2; have c2b1 : (x0_1.toList != ([] : List UInt8)) = true := bne_iff_ne.mpr c2; replace H := Option.bind_eq_some_iff.mp H; obtain ⟨t111, A30, H⟩ := H
     replace H : (if t111 = true then (some false) else ((utf_First.f k1 x0_1).bind fun bt112 => (if 0 ≤ bt112.2 then (if bt112.2 ≤ (x0_1.size : Int) then (utf_Right.l0 k1 (x0_1.extract (bt112.2 : Int).toNat x0_1.size)) else (none)) else (none)))) = some r := H
     have A3 := Aside0.mk A30; clear A30
     by_cases c4 : t111 = true
     · subst c4
       have H1 : (some false) = some r := by rw [if_pos rfl] at H; exact H
       clear H; have H := H1; clear H1; obtain rfl := Option.some.inj H
       go_wp2_with (first | ((with_reducible refine gate_callee (f := 55) rfl ?_); refine goesL_ (some 8) rfl rfl Tryd.func55 (by kernel_rfl) rfl #[.string x0_1] rfl qD24 ?_; (with_reducible refine (utf_strange.calls k1 x0_1 true _ A3.out ?side1).mono ?_); (case side1 => exact qD20); rintro e w' ⟨rfl, ⟨nd, rfl⟩⟩; refine ⟨_, rfl, ?_⟩))
       go_ret
       exact ⟨qD23, qD22⟩
     · replace c4 := Bool.eq_false_iff.mpr c4
       subst c4
       have H1 : ((utf_First.f k1 x0_1).bind fun bt112 => (if 0 ≤ bt112.2 then (if bt112.2 ≤ (x0_1.size : Int) then (utf_Right.l0 k1 (x0_1.extract (bt112.2 : Int).toNat x0_1.size)) else (none)) else (none))) = some r := by rw [if_neg (show ¬ (false = true) by decide)] at H; exact H
       clear H; have H := H1; clear H1; replace H := Option.bind_eq_some_iff.mp H; obtain ⟨⟨t112, t113⟩, A50, H⟩ := H
       replace H : (if 0 ≤ t113 then (if t113 ≤ (x0_1.size : Int) then (utf_Right.l0 k1 (x0_1.extract (t113 : Int).toNat x0_1.size)) else (none)) else (none)) = some r := H
       have A5 := Aside0.mk A50; clear A50
       by_cases c6 : 0 ≤ t113
       · rw [if_pos c6] at H
         have c6b0 := eq_true c6; have c6b1 : decide (0 ≤ t113) = true := decide_eq_true c6; clear c6
         by_cases c7 : t113 ≤ (x0_1.size : Int)
         · rw [if_pos c7] at H
           have c7b0 := eq_true c7; have c7b1 : decide (t113 ≤ (x0_1.size : Int)) = true := decide_eq_true c7; clear c7; have H' := Aside0.mk H; clear H
           go_wp2_with (first | ((with_reducible refine gate_callee (f := 55) rfl ?_); refine goesL_ (some 8) rfl rfl Tryd.func55 (by kernel_rfl) rfl #[.string x0_1] rfl qD24 ?_; (with_reducible refine (utf_strange.calls k1 x0_1 false _ A3.out ?side1).mono ?_); (case side1 => exact qD20); rintro e w' ⟨rfl, ⟨nd, rfl⟩⟩; refine ⟨_, rfl, ?_⟩) | ((with_reducible refine gate_callee (f := 56) rfl ?_); refine goesL_ (some 11) rfl rfl Tryd.func56 (by kernel_rfl) rfl #[.string x0_1] rfl qD24 ?_; (with_reducible refine (utf_First.calls k1 x0_1 t112 t113 _ A5.out ?side1).mono ?_); (case side1 => exact qD20); rintro e w' ⟨rfl, ⟨nd, rfl⟩⟩; refine ⟨_, rfl, ?_⟩))
           go_roundg k1
           case measure => have := HK1.out; omega
           case rel => exact ⟨(x0_1.extract (t113 : Int).toNat x0_1.size), qD23, H', ⟨by have := HK1.out; omega⟩, qD22⟩
         · rw [if_neg c7] at H
           exact absurd H (by simp)
       · rw [if_neg c6] at H
         exact absurd H (by simp)

end Go.Proofs.YtgopimjfoppkmaaDoor.D
