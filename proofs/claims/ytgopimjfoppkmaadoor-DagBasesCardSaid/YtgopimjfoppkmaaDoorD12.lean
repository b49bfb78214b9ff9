/- Printed functions, each with a proof that the call answers so. -/
import Derived.Test.YtgopimjfoppkmaaDoorD0
import Derived.Test.YtgopimjfoppkmaaDoorD11
namespace Go.Proofs.YtgopimjfoppkmaaDoor.D
open Go.RowKit Go.Proofs.YtgopimjfoppkmaaDoorW.PrintWords Go.Proofs.YtgopimjfoppkmaaDoorW.PrintLast Go.Proofs.YtgopimjfoppkmaaDoorW.PrintMore
attribute [local go_sem] max2_int min2_int max_two min_two max_three min_three max_four min_four   -- for this text's walks alone
set_option linter.unusedVariables false
set_option linter.unusedSimpArgs false

theorem mRD12 {p q : Prop} (x : q) (h : q → p := by intro x_; (with_reducible repeat (first | apply Kd.R_alloc | apply Kd.R_drewN | apply Kd.R_drew)); exact x_) : p := h x
theorem qD120 {p : Prop} (h : p := by repeat (first | (with_reducible first | exact HB.out | apply below_alloc | apply pw_below_drewN | apply below_drew1 | refine below_set ?_ GE254.out) | exact HB.out)) : p := h
theorem qD121 {p : Prop} (h : p := by (with_reducible repeat (first | refine blk_drewN ?_ _ | refine blk_drew ?_ | refine blk_alloc ?_ _)); refine blk_put (cs := #[.int .i64 65533, .int .i64 1, .bool false]) ?_ 2 _ (by first | rfl | (simp only [*]; done) | (simp only [*]; rfl)); (with_reducible repeat (first | refine blk_drewN ?_ _ | refine blk_drew ?_ | refine blk_alloc ?_ _)); refine blk_put (cs := #[.int .i64 65533, .int .i64 0, .bool false]) ?_ 1 _ (by first | rfl | (simp only [*]; done) | (simp only [*]; rfl)); (with_reducible repeat (first | refine blk_drewN ?_ _ | refine blk_drew ?_ | refine blk_alloc ?_ _)); refine blk_put (cs := #[.int .i64 0, .int .i64 0, .bool false]) ?_ 0 _ (by first | rfl | (simp only [*]; done) | (simp only [*]; rfl)); (with_reducible repeat (first | refine blk_drewN ?_ _ | refine blk_drew ?_ | refine blk_alloc ?_ _)); exact BK254.out) : p := h
theorem qD122 {p : Prop} (h : p := by repeat (first | (with_reducible first | exact HB.out | apply below_alloc | apply pw_below_drewN | apply below_drew1) | exact HB.out)) : p := h
theorem qD123 {p : Prop} (h : p := by repeat (first | (with_reducible first | exact HB.out | apply below_alloc | apply pw_below_drewN | apply below_drew1 | refine below_set ?_ GE260.out | refine below_set ?_ GE261.out) | exact HB.out)) : p := h
theorem qD124 {p : Prop} (h : p := by (try simp only [List.map_toArray, List.map_cons, List.map_nil]); first | done | rfl | (simp only [List.length_drop, List.length_take]; rfl)) : p := h
theorem qD125 {p : Prop} (h : p := by (with_reducible repeat (first | refine blk_drewN ?_ _ | refine blk_drew ?_ | refine blk_alloc ?_ _)); refine blk_put (cs := #[.int .i64 t262, .int .i64 t263, .bool false]) ?_ 2 _ (by first | rfl | (simp only [*]; done) | (simp only [*]; rfl)); (with_reducible repeat (first | refine blk_drewN ?_ _ | refine blk_drew ?_ | refine blk_alloc ?_ _)); refine blk_put (cs := #[.int .i64 t262, .int .i64 0, .bool false]) ?_ 1 _ (by first | rfl | (simp only [*]; done) | (simp only [*]; rfl)); (with_reducible repeat (first | refine blk_drewN ?_ _ | refine blk_drew ?_ | refine blk_alloc ?_ _)); refine blk_put (cs := #[.int .i64 0, .int .i64 0, .bool false]) ?_ 0 _ (by first | rfl | (simp only [*]; done) | (simp only [*]; rfl)); (with_reducible repeat (first | refine blk_drewN ?_ _ | refine blk_drew ?_ | refine blk_alloc ?_ _)); exact BK265.out) : p := h
theorem qD126 {p : Prop} (h : p := by first | rfl | (simp only [*]; done) | (simp only [*]; rfl)) : p := h
theorem qD127 {p : Prop} (h : p := by repeat (first | (with_reducible first | exact HB.out | apply below_alloc | apply pw_below_drewN | apply below_drew1 | refine below_set ?_ GE260.out | refine below_set ?_ GE261.out | refine below_set ?_ GE265.out) | exact HB.out)) : p := h
theorem qD128 {p : Prop} (h : p := by (with_reducible repeat (first | refine blk_drewN ?_ _ | refine blk_drew ?_ | refine blk_alloc ?_ _)); exact BK260.out) : p := h
theorem qD129 {p : Prop} (h : p := by (with_reducible repeat (first | refine blk_drewN ?_ _ | refine blk_drew ?_ | refine blk_alloc ?_ _)); refine blk_far ?_ NB260_265.out _; (with_reducible repeat (first | refine blk_drewN ?_ _ | refine blk_drew ?_ | refine blk_alloc ?_ _)); refine blk_far ?_ NB260_265.out _; (with_reducible repeat (first | refine blk_drewN ?_ _ | refine blk_drew ?_ | refine blk_alloc ?_ _)); refine blk_far ?_ NB260_265.out _; (with_reducible repeat (first | refine blk_drewN ?_ _ | refine blk_drew ?_ | refine blk_alloc ?_ _)); exact BK260.out) : p := h
theorem qD1210 {p : Prop} (h : p := by (with_reducible repeat (first | refine blk_drewN ?_ _ | refine blk_drew ?_ | refine blk_alloc ?_ _)); refine blk_far ?_ NB261_265.out _; (with_reducible repeat (first | refine blk_drewN ?_ _ | refine blk_drew ?_ | refine blk_alloc ?_ _)); refine blk_far ?_ NB261_265.out _; (with_reducible repeat (first | refine blk_drewN ?_ _ | refine blk_drew ?_ | refine blk_alloc ?_ _)); refine blk_far ?_ NB261_265.out _; (with_reducible repeat (first | refine blk_drewN ?_ _ | refine blk_drew ?_ | refine blk_alloc ?_ _)); exact BK261.out) : p := h
theorem qD1211 {p : Prop} (h : p := by first | rfl | (simp [errW_none, errW_some] <;> rfl) | (simp [*, errW_none, errW_some] <;> rfl)) : p := h
theorem qD1212 {p : Prop} (h : p := by first | rfl | (simp; done) | (simp [*]; done)) : p := h
theorem qD1213 {p : Prop} (h : p := by (with_reducible repeat (first | refine blk_drewN ?_ _ | refine blk_drew ?_ | refine blk_alloc ?_ _)); exact BK261.out) : p := h
theorem qD1214 {p : Prop} (h : p := by (with_reducible repeat (first | refine blk_drewN ?_ _ | refine blk_drew ?_ | refine blk_alloc ?_ _)); exact BK254.out) : p := h
theorem qD1215 {p : Prop} (h : p := by exact (by (with_reducible repeat (first | apply Kd.R_alloc | apply Kd.R_drewN | apply Kd.R_drew)); exact Kd.R_mono (Kd.R_far (p := ⟨gb265, 2, none⟩) (Kd.R_far (p := ⟨gb265, 1, none⟩) (Kd.R_far (p := ⟨gb265, 0, none⟩) (Kd.R_types HO_262000.out BK265.out (by decide)) (fun _ hk => hk.2) (.int .i64 t262)) (fun _ hk => hk.2) (.int .i64 t263)) (fun _ hk => hk.2) (.bool t264)) (fun _ hk => trivial))) : p := h
theorem qD1216 {p : Prop} (h : p := by first | (with_reducible assumption) | assumption) : p := h
theorem qD1217 {p : Prop} (h : p := by repeat (first | (with_reducible first | exact HB.out | apply below_alloc | apply pw_below_drewN | apply below_drew1 | refine below_set ?_ GE260.out) | exact HB.out)) : p := h
theorem qD1218 {p : Prop} (h : p := by first | (go_simp; done) | (go_simp; rfl)) : p := h
theorem qD1219 {p : Prop} (h : p := by exact Aside0.mk (Laid.below HG.out qD120)) : p := h
/-! ### rectoref02_At: function 54 -/
mutual
def rectoref02_At.j2 : Nat → ByteArray → Int → Int → Option (Int × Int × Bool)
 | 0, _, _, _ => none
 | k + 1, x0, x1, x9 => (rectoref02_Is.f x9).bind fun t258 => (if t258 = true then ((rectoref02_Bytes.f k x9).bind fun t259 => (if (wrap64 ((x0.size : Int) - x1)) < (t259.size : Int) then (some (65533, 1, false)) else (if 0 ≤ x1 then (if x1 ≤ (wrap64 (x1 + (t259.size : Int))) then (if (wrap64 (x1 + (t259.size : Int))) ≤ (x0.size : Int) then (if (x0.extract (x1 : Int).toNat ((wrap64 (x1 + (t259.size : Int))) : Int).toNat).toList = t259.toList then (some (x9, (t259.size : Int), true)) else (some (65533, 1, false))) else (none)) else (none)) else (none)))) else (some (65533, 1, false)))
def rectoref02_At.j0 : Nat → ByteArray → Int → Int → Int → Int → Int → Int → Bool → Option (Int × Int × Bool)
 | 0, _, _, _, _, _, _, _, _ => none
 | k + 1, x0, x1, x5, x6, x7, x8, x9, x39 => if x39 = true then (rectoref02_At.j2 k x0 x1 (wrap64 ((wrap64 (64 * (wrap64 (x5 - 192)))) + x6))) else (if x5 ≥ 224 then (if x5 < 240 then (if x6 ≥ 0 then (rectoref02_At.j1 k x0 x1 x5 x6 x7 x8 x9 (decide (x7 ≥ 0))) else (rectoref02_At.j1 k x0 x1 x5 x6 x7 x8 x9 false)) else (rectoref02_At.j1 k x0 x1 x5 x6 x7 x8 x9 false)) else (rectoref02_At.j1 k x0 x1 x5 x6 x7 x8 x9 false))
def rectoref02_At.j1 : Nat → ByteArray → Int → Int → Int → Int → Int → Int → Bool → Option (Int × Int × Bool)
 | 0, _, _, _, _, _, _, _, _ => none
 | k + 1, x0, x1, x5, x6, x7, x8, x9, x58 => if x58 = true then (rectoref02_At.j2 k x0 x1 (wrap64 ((wrap64 ((wrap64 (4096 * (wrap64 (x5 - 224)))) + (wrap64 (64 * x6)))) + x7))) else (if x5 ≥ 240 then (if x5 < 248 then (if x6 ≥ 0 then (if x7 ≥ 0 then (if x8 ≥ 0 then (rectoref02_At.j2 k x0 x1 (wrap64 ((wrap64 ((wrap64 ((wrap64 (262144 * (wrap64 (x5 - 240)))) + (wrap64 (4096 * x6)))) + (wrap64 (64 * x7)))) + x8))) else (rectoref02_At.j2 k x0 x1 x9)) else (rectoref02_At.j2 k x0 x1 x9)) else (rectoref02_At.j2 k x0 x1 x9)) else (rectoref02_At.j2 k x0 x1 x9)) else (rectoref02_At.j2 k x0 x1 x9))
end
def rectoref02_At.f (k : Nat) (a0 : ByteArray) (a1 : Int) : Option (Int × Int × Bool) := if 0 ≤ a1 then (if a1 < (a0.size : Int) then ((rectoref02_low.f a0 (wrap64 (a1 + 1))).bind fun t255 => ((rectoref02_low.f a0 (wrap64 (a1 + 2))).bind fun t256 => ((rectoref02_low.f a0 (wrap64 (a1 + 3))).bind fun t257 => (if (wrap64 (bt a0 a1)) < 128 then (rectoref02_At.j2 k a0 a1 (wrap64 (bt a0 a1))) else (if (wrap64 (bt a0 a1)) ≥ 192 then (if (wrap64 (bt a0 a1)) < 224 then (rectoref02_At.j0 k a0 a1 (wrap64 (bt a0 a1)) t255 t256 t257 (-1) (decide (t255 ≥ 0))) else (rectoref02_At.j0 k a0 a1 (wrap64 (bt a0 a1)) t255 t256 t257 (-1) false)) else (rectoref02_At.j0 k a0 a1 (wrap64 (bt a0 a1)) t255 t256 t257 (-1) false)))))) else (none)) else (none)
theorem rectoref02_At.mono_l : ∀ k, (∀ y0 y1 y2, LeO (rectoref02_At.j2 k y0 y1 y2) (rectoref02_At.j2 (k + 1) y0 y1 y2)) ∧ (∀ y0 y1 y2 y3 y4 y5 y6 y7, LeO (rectoref02_At.j0 k y0 y1 y2 y3 y4 y5 y6 y7) (rectoref02_At.j0 (k + 1) y0 y1 y2 y3 y4 y5 y6 y7)) ∧ (∀ y0 y1 y2 y3 y4 y5 y6 y7, LeO (rectoref02_At.j1 k y0 y1 y2 y3 y4 y5 y6 y7) (rectoref02_At.j1 (k + 1) y0 y1 y2 y3 y4 y5 y6 y7))
 | 0 => ⟨fun _ _ _ r h => by simp [rectoref02_At.j2] at h, fun _ _ _ _ _ _ _ _ r h => by simp [rectoref02_At.j0] at h, fun _ _ _ _ _ _ _ _ r h => by simp [rectoref02_At.j1] at h⟩
 | k + 1 => by
  obtain ⟨ih0, ih1, ih2⟩ := rectoref02_At.mono_l k
  refine ⟨?_, ?_, ?_⟩
  · intro y0 y1 y2
    unfold rectoref02_At.j2
    repeat' first
    | (with_reducible exact ih0 _ _ _)
    | (with_reducible exact ih1 _ _ _ _ _ _ _ _)
    | (with_reducible exact ih2 _ _ _ _ _ _ _ _)
    | (with_reducible exact rectoref02_Bytes.mono _ _)
    | (with_reducible exact LeO.refl _)
    | (with_reducible exact LeO.none _)
    | (with_reducible refine LeO.ite ?_ ?_)
    | (with_reducible refine LeO.bind ?_ (fun _ => ?_))
    | exact ih0 _ _ _
    | exact ih1 _ _ _ _ _ _ _ _
    | exact ih2 _ _ _ _ _ _ _ _
    | exact rectoref02_Bytes.mono _ _
    | exact LeO.none _
    | refine LeO.ite ?_ ?_
    | refine LeO.bind ?_ (fun _ => ?_)
  · intro y0 y1 y2 y3 y4 y5 y6 y7
    unfold rectoref02_At.j0
    repeat' first
    | (with_reducible exact ih0 _ _ _)
    | (with_reducible exact ih1 _ _ _ _ _ _ _ _)
    | (with_reducible exact ih2 _ _ _ _ _ _ _ _)
    | (with_reducible exact rectoref02_Bytes.mono _ _)
    | (with_reducible exact LeO.refl _)
    | (with_reducible exact LeO.none _)
    | (with_reducible refine LeO.ite ?_ ?_)
    | (with_reducible refine LeO.bind ?_ (fun _ => ?_))
    | exact ih0 _ _ _
    | exact ih1 _ _ _ _ _ _ _ _
    | exact ih2 _ _ _ _ _ _ _ _
    | exact rectoref02_Bytes.mono _ _
    | exact LeO.none _
    | refine LeO.ite ?_ ?_
    | refine LeO.bind ?_ (fun _ => ?_)
  · intro y0 y1 y2 y3 y4 y5 y6 y7
    unfold rectoref02_At.j1
    repeat' first
    | (with_reducible exact ih0 _ _ _)
    | (with_reducible exact ih1 _ _ _ _ _ _ _ _)
    | (with_reducible exact ih2 _ _ _ _ _ _ _ _)
    | (with_reducible exact rectoref02_Bytes.mono _ _)
    | (with_reducible exact LeO.refl _)
    | (with_reducible exact LeO.none _)
    | (with_reducible refine LeO.ite ?_ ?_)
    | (with_reducible refine LeO.bind ?_ (fun _ => ?_))
    | exact ih0 _ _ _
    | exact ih1 _ _ _ _ _ _ _ _
    | exact ih2 _ _ _ _ _ _ _ _
    | exact rectoref02_Bytes.mono _ _
    | exact LeO.none _
    | refine LeO.ite ?_ ?_
    | refine LeO.bind ?_ (fun _ => ?_)
theorem rectoref02_At.mono : ∀ a0 a1 k, LeO (rectoref02_At.f k a0 a1) (rectoref02_At.f (k + 1) a0 a1) := by
 intro a0 a1 k
 obtain ⟨ih0, ih1, ih2⟩ := rectoref02_At.mono_l k; unfold rectoref02_At.f
 repeat' first
  | (with_reducible exact ih0 _ _ _)
  | (with_reducible exact ih1 _ _ _ _ _ _ _ _)
  | (with_reducible exact ih2 _ _ _ _ _ _ _ _)
  | (with_reducible exact rectoref02_Bytes.mono _ _)
  | (with_reducible exact LeO.refl _)
  | (with_reducible exact LeO.none _)
  | (with_reducible refine LeO.ite ?_ ?_)
  | (with_reducible refine LeO.bind ?_ (fun _ => ?_))
  | exact ih0 _ _ _
  | exact ih1 _ _ _ _ _ _ _ _
  | exact ih2 _ _ _ _ _ _ _ _
  | exact rectoref02_Bytes.mono _ _
  | exact LeO.none _
  | refine LeO.ite ?_ ?_
  | refine LeO.bind ?_ (fun _ => ?_)
set_option maxHeartbeats 8000000 in
set_option maxRecDepth 100000 in
theorem rectoref02_At.calls (k : Nat) (a0 : ByteArray) (a1 : Int) (r1 : Int) (r2 : Int) (r3 : Bool) (w : World) (h : rectoref02_At.f k a0 a1 = some (r1, r2, r3)) (HG : Aside0 (Laid w)) :
 Calls Tryd.prog 54 #[.string a0, .int .i64 a1] w fun e w' => e = .returned (.agg #[.int .i64 r1, .int .i64 r2, .bool r3]) ∧ Below w.heap.size w w' := by
 have hu75 := Tryd.underlying75; have HB := Aside0.mk (Below.refl w.heap.size w)
 have H : (if 0 ≤ a1 then (if a1 < (a0.size : Int) then ((rectoref02_low.f a0 (wrap64 (a1 + 1))).bind fun t255 => ((rectoref02_low.f a0 (wrap64 (a1 + 2))).bind fun t256 => ((rectoref02_low.f a0 (wrap64 (a1 + 3))).bind fun t257 => (if (wrap64 (bt a0 a1)) < 128 then (rectoref02_At.j2 k a0 a1 (wrap64 (bt a0 a1))) else (if (wrap64 (bt a0 a1)) ≥ 192 then (if (wrap64 (bt a0 a1)) < 224 then (rectoref02_At.j0 k a0 a1 (wrap64 (bt a0 a1)) t255 t256 t257 (-1) (decide (t255 ≥ 0))) else (rectoref02_At.j0 k a0 a1 (wrap64 (bt a0 a1)) t255 t256 t257 (-1) false)) else (rectoref02_At.j0 k a0 a1 (wrap64 (bt a0 a1)) t255 t256 t257 (-1) false)))))) else (none)) else (none)) = some (r1, r2, r3) := h
 clear h
 by_cases c3 : 0 ≤ a1
 · rw [if_pos c3] at H
   have c3b0 : decide (0 ≤ a1) = true := decide_eq_true c3; clear c3
   by_cases c4 : a1 < (a0.size : Int)
   · rw [if_pos c4] at H
     have c4b0 : decide (a1 < (a0.size : Int)) = true := decide_eq_true c4; clear c4; replace H := Option.bind_eq_some_iff.mp H; obtain ⟨t255, A60, H⟩ := H
     replace H : ((rectoref02_low.f a0 (wrap64 (a1 + 2))).bind fun t256 => ((rectoref02_low.f a0 (wrap64 (a1 + 3))).bind fun t257 => (if (wrap64 (bt a0 a1)) < 128 then (rectoref02_At.j2 k a0 a1 (wrap64 (bt a0 a1))) else (if (wrap64 (bt a0 a1)) ≥ 192 then (if (wrap64 (bt a0 a1)) < 224 then (rectoref02_At.j0 k a0 a1 (wrap64 (bt a0 a1)) t255 t256 t257 (-1) (decide (t255 ≥ 0))) else (rectoref02_At.j0 k a0 a1 (wrap64 (bt a0 a1)) t255 t256 t257 (-1) false)) else (rectoref02_At.j0 k a0 a1 (wrap64 (bt a0 a1)) t255 t256 t257 (-1) false))))) = some (r1, r2, r3) := H
     have A6 := Aside0.mk A60; clear A60; replace H := Option.bind_eq_some_iff.mp H; obtain ⟨t256, A70, H⟩ := H
     replace H : ((rectoref02_low.f a0 (wrap64 (a1 + 3))).bind fun t257 => (if (wrap64 (bt a0 a1)) < 128 then (rectoref02_At.j2 k a0 a1 (wrap64 (bt a0 a1))) else (if (wrap64 (bt a0 a1)) ≥ 192 then (if (wrap64 (bt a0 a1)) < 224 then (rectoref02_At.j0 k a0 a1 (wrap64 (bt a0 a1)) t255 t256 t257 (-1) (decide (t255 ≥ 0))) else (rectoref02_At.j0 k a0 a1 (wrap64 (bt a0 a1)) t255 t256 t257 (-1) false)) else (rectoref02_At.j0 k a0 a1 (wrap64 (bt a0 a1)) t255 t256 t257 (-1) false)))) = some (r1, r2, r3) := H
     have A7 := Aside0.mk A70; clear A70; replace H := Option.bind_eq_some_iff.mp H; obtain ⟨t257, A80, H⟩ := H
     replace H : (if (wrap64 (bt a0 a1)) < 128 then (rectoref02_At.j2 k a0 a1 (wrap64 (bt a0 a1))) else (if (wrap64 (bt a0 a1)) ≥ 192 then (if (wrap64 (bt a0 a1)) < 224 then (rectoref02_At.j0 k a0 a1 (wrap64 (bt a0 a1)) t255 t256 t257 (-1) (decide (t255 ≥ 0))) else (rectoref02_At.j0 k a0 a1 (wrap64 (bt a0 a1)) t255 t256 t257 (-1) false)) else (rectoref02_At.j0 k a0 a1 (wrap64 (bt a0 a1)) t255 t256 t257 (-1) false))) = some (r1, r2, r3) := H
     have A8 := Aside0.mk A80; clear A80; have HC9 := Aside0.mk H; clear H
     go_enter Tryd.func54, Tryd.ntmps54
     go_upto_if 28 with (first | ((with_reducible refine gate_dst (N := 4) rfl ?_); (try (refine gate_guard (by rfl) ?_; dsimp only)); refine box_event ?hg (N := 4) ?hd (cs := #[.int .i64 0, .int .i64 0, .bool false]) (t := 75) ?hr ?_; (case hd => rfl); (case hg => rfl); (case hr => exact qD1218); intro gb254 hg w10 hbox hb; have n0_ := Aside0.mk (below_step qD122 hb); have n1_ := Aside0.mk (hbox); have n2_ := Aside0.mk ((by rw [hg]; exact (below_size qD122) : w.heap.size ≤ gb254)); have n3_ := Aside0.mk ((by rw [hg]; exact (below_size qD122) : w.heap.size ≤ gb254)); clear HB; have HB := n0_; have BK254 := n1_; have GW254 := n2_; have GE254 := n3_; clear n0_ n1_ n2_ n3_; clear hb hbox hg; have p5 : 0 ≤ (a1 : Int) := of_decide_eq_true qD1216; have q5 : a1 < (a0.size : Int) := of_decide_eq_true qD1216; have hx5 := bt_at a0 a1; replace p5 := eq_true p5; replace q5 := eq_true q5) | ((with_reducible refine gate_callee (f := 57) rfl ?_); refine goesL_ (some 18) rfl rfl Tryd.func57 (by kernel_rfl) rfl #[.string a0, .int .i64 (wrap64 (a1 + 1))] rfl qD124 ?_; (with_reducible refine (rectoref02_low.calls a0 (wrap64 (a1 + 1)) t255 _ A6.out ?side1).mono ?_); (case side1 => exact qD1219); rintro e w' ⟨rfl, ⟨nd, rfl⟩⟩; refine ⟨_, rfl, ?_⟩) | ((with_reducible refine gate_callee (f := 57) rfl ?_); refine goesL_ (some 22) rfl rfl Tryd.func57 (by kernel_rfl) rfl #[.string a0, .int .i64 (wrap64 (a1 + 2))] rfl qD124 ?_; (with_reducible refine (rectoref02_low.calls a0 (wrap64 (a1 + 2)) t256 _ A7.out ?side1).mono ?_); (case side1 => exact qD1219); rintro e w' ⟨rfl, ⟨nd, rfl⟩⟩; refine ⟨_, rfl, ?_⟩) | ((with_reducible refine gate_callee (f := 57) rfl ?_); refine goesL_ (some 26) rfl rfl Tryd.func57 (by kernel_rfl) rfl #[.string a0, .int .i64 (wrap64 (a1 + 3))] rfl qD124 ?_; (with_reducible refine (rectoref02_low.calls a0 (wrap64 (a1 + 3)) t257 _ A8.out ?side1).mono ?_); (case side1 => exact qD1219); rintro e w' ⟨rfl, ⟨nd, rfl⟩⟩; refine ⟨_, rfl, ?_⟩))
     (try simp only [Act.put, List.setIfInBounds_toArray, List.set_cons_zero, List.set_cons_succ])
     go_cut [9] (fun v9 wc => ∃ (kq : Nat) (x9_8 : Int), v9 = .int .i64 x9_8 ∧ Aside0 (rectoref02_At.j2 kq a0 a1 x9_8 = some (r1, r2, r3)) ∧ Aside0 (kq ≤ k) ∧ Aside0 (wc.heap[gb254]? = some (.cells #[.int .i64 0, .int .i64 0, .bool false] 75 (0, 0))) ∧ Aside0 (Below w.heap.size w wc))
     case first =>
      have H := HC9.out; clear HC9
      by_cases c11 : (wrap64 (bt a0 a1)) < 128
      · rw [if_pos c11] at H
        have c11b0 : decide ((wrap64 (bt a0 a1)) < 128) = true := decide_eq_true c11; clear c11
        (first | rw [c11b0] | (simp only [i64_w, i32_w]; rw [c11b0]) | skip)
        have H' := Aside0.mk H; clear H
        go_wp2
        go_meet
        case rel => exact ⟨_, (wrap64 (bt a0 a1)), qD1212, H', ⟨by first | omega | exact Nat.le_refl _⟩, ⟨by (with_reducible repeat (first | refine blk_drewN ?_ _ | refine blk_drew ?_ | refine blk_alloc ?_ _)); exact BK254.out⟩, ⟨qD120⟩⟩
      · rw [if_neg c11] at H
        have c11b0 : decide ((wrap64 (bt a0 a1)) < 128) = false := decide_eq_false c11; clear c11
        (first | rw [c11b0] | (simp only [i64_w, i32_w]; rw [c11b0]) | skip)
        have HC12 := Aside0.mk H; clear H
        go_upto_region 8 with (fail)
        go_cut [39] (fun v39 wc => ∃ (kq : Nat) (x39_11 : Bool), v39 = .bool x39_11 ∧ Aside0 (rectoref02_At.j0 kq a0 a1 (wrap64 (bt a0 a1)) t255 t256 t257 (-1) x39_11 = some (r1, r2, r3)) ∧ Aside0 (kq ≤ k) ∧ Aside0 (wc.heap[gb254]? = some (.cells #[.int .i64 0, .int .i64 0, .bool false] 75 (0, 0))) ∧ Aside0 (Below w.heap.size w wc))
        case first =>
         have H := HC12.out; clear HC12
         by_cases c13 : (wrap64 (bt a0 a1)) ≥ 192
         · rw [if_pos c13] at H
           have c13b0 : decide (192 ≤ (wrap64 (bt a0 a1))) = true := decide_eq_true c13; clear c13
           (first | rw [c13b0] | (simp only [i64_w, i32_w]; rw [c13b0]) | skip)
           by_cases c14 : (wrap64 (bt a0 a1)) < 224
           · rw [if_pos c14] at H
             have c14b0 : decide ((wrap64 (bt a0 a1)) < 224) = true := decide_eq_true c14; clear c14; have H' := Aside0.mk H; clear H
             go_wp2
             go_meet
             case rel => exact ⟨_, (decide (t255 ≥ 0)), qD1212, H', ⟨by first | omega | exact Nat.le_refl _⟩, ⟨by (with_reducible repeat (first | refine blk_drewN ?_ _ | refine blk_drew ?_ | refine blk_alloc ?_ _)); exact BK254.out⟩, ⟨qD120⟩⟩
           · rw [if_neg c14] at H
             have c14b0 : decide ((wrap64 (bt a0 a1)) < 224) = false := decide_eq_false c14; clear c14; have H' := Aside0.mk H; clear H
             go_wp2
             go_meet
             case rel => exact ⟨_, (false), qD1212, H', ⟨by first | omega | exact Nat.le_refl _⟩, ⟨by (with_reducible repeat (first | refine blk_drewN ?_ _ | refine blk_drew ?_ | refine blk_alloc ?_ _)); exact BK254.out⟩, ⟨qD120⟩⟩
         · rw [if_neg c13] at H
           have c13b0 : decide (192 ≤ (wrap64 (bt a0 a1))) = false := decide_eq_false c13; clear c13
           (first | rw [c13b0] | (simp only [i64_w, i32_w]; rw [c13b0]) | skip)
           have H' := Aside0.mk H; clear H
           go_wp2
           go_meet
           case rel => exact ⟨_, (false), qD1212, H', ⟨by first | omega | exact Nat.le_refl _⟩, ⟨by (with_reducible repeat (first | refine blk_drewN ?_ _ | refine blk_drew ?_ | refine blk_alloc ?_ _)); exact BK254.out⟩, ⟨qD120⟩⟩
        case rest =>
         clear HC12; (try clear c1); (try clear p2); (try clear c3); (try clear c3b0); (try clear c4); (try clear c4b0); (try clear c5); (try clear p5); (try clear q5); (try clear hx5); (try clear p6); (try clear c11); (try clear c11b0); (try clear c13); (try clear c13b0); (try clear c14); (try clear c14b0); (try clear p5); (try clear q5); obtain ⟨kq, x39_11, rfl, HA, HJ11, BK254, HB⟩ := hcut
         cases kq with
         | zero => exact absurd HA.out (by simp [rectoref02_At.j0])
         | succ kj11 =>
          have H := HA.out; clear HA; simp only [rectoref02_At.j0] at H
          by_cases c15 : x39_11 = true
          · subst c15
            have H1 : (rectoref02_At.j2 kj11 a0 a1 (wrap64 ((wrap64 (64 * (wrap64 ((wrap64 (bt a0 a1)) - 192)))) + t255))) = some (r1, r2, r3) := by rw [if_pos rfl] at H; exact H
            clear H; have H := H1; clear H1; have H' := Aside0.mk H; clear H
            go_wp2
            go_meet
            case rel => exact ⟨_, (wrap64 ((wrap64 (64 * (wrap64 ((wrap64 (bt a0 a1)) - 192)))) + t255)), qD1212, H', ⟨by have := HJ11.out; first | omega | exact Nat.le_refl _⟩, ⟨by (with_reducible repeat (first | refine blk_drewN ?_ _ | refine blk_drew ?_ | refine blk_alloc ?_ _)); exact BK254.out⟩, ⟨qD120⟩⟩
          · replace c15 := Bool.eq_false_iff.mpr c15
            subst c15
            have H1 : (if (wrap64 (bt a0 a1)) ≥ 224 then (if (wrap64 (bt a0 a1)) < 240 then (if t255 ≥ 0 then (rectoref02_At.j1 kj11 a0 a1 (wrap64 (bt a0 a1)) t255 t256 t257 (-1) (decide (t256 ≥ 0))) else (rectoref02_At.j1 kj11 a0 a1 (wrap64 (bt a0 a1)) t255 t256 t257 (-1) false)) else (rectoref02_At.j1 kj11 a0 a1 (wrap64 (bt a0 a1)) t255 t256 t257 (-1) false)) else (rectoref02_At.j1 kj11 a0 a1 (wrap64 (bt a0 a1)) t255 t256 t257 (-1) false)) = some (r1, r2, r3) := by rw [if_neg (show ¬ (false = true) by decide)] at H; exact H
            clear H; have H := H1; clear H1; have HC16 := Aside0.mk H; clear H
            go_upto_region 10 with (fail)
            go_cut [58] (fun v58 wc => ∃ (kq : Nat) (x58_15 : Bool), v58 = .bool x58_15 ∧ Aside0 (rectoref02_At.j1 kq a0 a1 (wrap64 (bt a0 a1)) t255 t256 t257 (-1) x58_15 = some (r1, r2, r3)) ∧ Aside0 (kq ≤ kj11) ∧ Aside0 (wc.heap[gb254]? = some (.cells #[.int .i64 0, .int .i64 0, .bool false] 75 (0, 0))) ∧ Aside0 (Below w.heap.size w wc))
            case first =>
             have H := HC16.out; clear HC16
             by_cases c17 : (wrap64 (bt a0 a1)) ≥ 224
             · rw [if_pos c17] at H
               have c17b0 : decide (224 ≤ (wrap64 (bt a0 a1))) = true := decide_eq_true c17; clear c17
               (first | rw [c17b0] | (simp only [i64_w, i32_w]; rw [c17b0]) | skip)
               by_cases c18 : (wrap64 (bt a0 a1)) < 240
               · rw [if_pos c18] at H
                 have c18b0 : decide ((wrap64 (bt a0 a1)) < 240) = true := decide_eq_true c18; clear c18
                 by_cases c19 : t255 ≥ 0
                 · rw [if_pos c19] at H
                   have c19b0 : decide (0 ≤ t255) = true := decide_eq_true c19; clear c19; have H' := Aside0.mk H; clear H
                   go_wp2
                   go_meet
                   case rel => exact ⟨_, (decide (t256 ≥ 0)), qD1212, H', ⟨by have := HJ11.out; first | omega | exact Nat.le_refl _⟩, ⟨by (with_reducible repeat (first | refine blk_drewN ?_ _ | refine blk_drew ?_ | refine blk_alloc ?_ _)); exact BK254.out⟩, ⟨qD120⟩⟩
                 · rw [if_neg c19] at H
                   have c19b0 : decide (0 ≤ t255) = false := decide_eq_false c19; clear c19; have H' := Aside0.mk H; clear H
                   go_wp2
                   go_meet
                   case rel => exact ⟨_, (false), qD1212, H', ⟨by have := HJ11.out; first | omega | exact Nat.le_refl _⟩, ⟨by (with_reducible repeat (first | refine blk_drewN ?_ _ | refine blk_drew ?_ | refine blk_alloc ?_ _)); exact BK254.out⟩, ⟨qD120⟩⟩
               · rw [if_neg c18] at H
                 have c18b0 : decide ((wrap64 (bt a0 a1)) < 240) = false := decide_eq_false c18; clear c18; have H' := Aside0.mk H; clear H
                 go_wp2
                 go_meet
                 case rel => exact ⟨_, (false), qD1212, H', ⟨by have := HJ11.out; first | omega | exact Nat.le_refl _⟩, ⟨by (with_reducible repeat (first | refine blk_drewN ?_ _ | refine blk_drew ?_ | refine blk_alloc ?_ _)); exact BK254.out⟩, ⟨qD120⟩⟩
             · rw [if_neg c17] at H
               have c17b0 : decide (224 ≤ (wrap64 (bt a0 a1))) = false := decide_eq_false c17; clear c17
               (first | rw [c17b0] | (simp only [i64_w, i32_w]; rw [c17b0]) | skip)
               have H' := Aside0.mk H; clear H
               go_wp2
               go_meet
               case rel => exact ⟨_, (false), qD1212, H', ⟨by have := HJ11.out; first | omega | exact Nat.le_refl _⟩, ⟨by (with_reducible repeat (first | refine blk_drewN ?_ _ | refine blk_drew ?_ | refine blk_alloc ?_ _)); exact BK254.out⟩, ⟨qD120⟩⟩
            case rest =>
             clear HC16; (try clear c1); (try clear p2); (try clear c3); (try clear c3b0); (try clear c4); (try clear c4b0); (try clear c5); (try clear p5); (try clear q5); (try clear hx5); (try clear p6); (try clear c11); (try clear c11b0); (try clear c13); (try clear c13b0); (try clear c14); (try clear c14b0); (try clear c15); (try clear c17); (try clear c17b0); (try clear c18); (try clear c18b0); (try clear c19); (try clear c19b0); (try clear p2); (try clear p5); (try clear p6); (try clear q5); obtain ⟨kq, x58_15, rfl, HA, HJ15, BK254, HB⟩ := hcut
             cases kq with
             | zero => exact absurd HA.out (by simp [rectoref02_At.j1])
             | succ kj15 =>
              have H := HA.out; clear HA; simp only [rectoref02_At.j1] at H
              by_cases c20 : x58_15 = true
              · subst c20
                have H1 : (rectoref02_At.j2 kj15 a0 a1 (wrap64 ((wrap64 ((wrap64 (4096 * (wrap64 ((wrap64 (bt a0 a1)) - 224)))) + (wrap64 (64 * t255)))) + t256))) = some (r1, r2, r3) := by rw [if_pos rfl] at H; exact H
                clear H; have H := H1; clear H1; have H' := Aside0.mk H; clear H
                go_wp2
                go_meet
                case rel => exact ⟨_, (wrap64 ((wrap64 ((wrap64 (4096 * (wrap64 ((wrap64 (bt a0 a1)) - 224)))) + (wrap64 (64 * t255)))) + t256)), qD1212, H', ⟨by have := HJ11.out; have := HJ15.out; first | omega | exact Nat.le_refl _⟩, ⟨by (with_reducible repeat (first | refine blk_drewN ?_ _ | refine blk_drew ?_ | refine blk_alloc ?_ _)); exact BK254.out⟩, ⟨qD120⟩⟩
              · replace c20 := Bool.eq_false_iff.mpr c20
                subst c20
                have H1 : (if (wrap64 (bt a0 a1)) ≥ 240 then (if (wrap64 (bt a0 a1)) < 248 then (if t255 ≥ 0 then (if t256 ≥ 0 then (if t257 ≥ 0 then (rectoref02_At.j2 kj15 a0 a1 (wrap64 ((wrap64 ((wrap64 ((wrap64 (262144 * (wrap64 ((wrap64 (bt a0 a1)) - 240)))) + (wrap64 (4096 * t255)))) + (wrap64 (64 * t256)))) + t257))) else (rectoref02_At.j2 kj15 a0 a1 (-1))) else (rectoref02_At.j2 kj15 a0 a1 (-1))) else (rectoref02_At.j2 kj15 a0 a1 (-1))) else (rectoref02_At.j2 kj15 a0 a1 (-1))) else (rectoref02_At.j2 kj15 a0 a1 (-1))) = some (r1, r2, r3) := by rw [if_neg (show ¬ (false = true) by decide)] at H; exact H
                clear H; have H := H1; clear H1
                by_cases c21 : (wrap64 (bt a0 a1)) ≥ 240
                · rw [if_pos c21] at H
                  have c21b0 : decide (240 ≤ (wrap64 (bt a0 a1))) = true := decide_eq_true c21; clear c21
                  by_cases c22 : (wrap64 (bt a0 a1)) < 248
                  · rw [if_pos c22] at H
                    have c22b0 : decide ((wrap64 (bt a0 a1)) < 248) = true := decide_eq_true c22; clear c22
                    by_cases c23 : t255 ≥ 0
                    · rw [if_pos c23] at H
                      have c23b0 : decide (0 ≤ t255) = true := decide_eq_true c23; clear c23
                      by_cases c24 : t256 ≥ 0
                      · rw [if_pos c24] at H
                        have c24b0 : decide (0 ≤ t256) = true := decide_eq_true c24; clear c24
                        by_cases c25 : t257 ≥ 0
                        · rw [if_pos c25] at H
                          have c25b0 : decide (0 ≤ t257) = true := decide_eq_true c25; clear c25; have H' := Aside0.mk H; clear H
                          go_wp2
                          go_meet
                          case rel => exact ⟨_, (wrap64 ((wrap64 ((wrap64 ((wrap64 (262144 * (wrap64 ((wrap64 (bt a0 a1)) - 240)))) + (wrap64 (4096 * t255)))) + (wrap64 (64 * t256)))) + t257)), qD1212, H', ⟨by have := HJ11.out; have := HJ15.out; first | omega | exact Nat.le_refl _⟩, ⟨by (with_reducible repeat (first | refine blk_drewN ?_ _ | refine blk_drew ?_ | refine blk_alloc ?_ _)); exact BK254.out⟩, ⟨qD120⟩⟩
                        · rw [if_neg c25] at H
                          have c25b0 : decide (0 ≤ t257) = false := decide_eq_false c25; clear c25; have H' := Aside0.mk H; clear H
                          go_wp2
                          go_meet
                          case rel => exact ⟨_, ((-1)), qD1212, H', ⟨by have := HJ11.out; have := HJ15.out; first | omega | exact Nat.le_refl _⟩, ⟨by (with_reducible repeat (first | refine blk_drewN ?_ _ | refine blk_drew ?_ | refine blk_alloc ?_ _)); exact BK254.out⟩, ⟨qD120⟩⟩
                      · rw [if_neg c24] at H
                        have c24b0 : decide (0 ≤ t256) = false := decide_eq_false c24; clear c24; have H' := Aside0.mk H; clear H
                        go_wp2
                        go_meet
                        case rel => exact ⟨_, ((-1)), qD1212, H', ⟨by have := HJ11.out; have := HJ15.out; first | omega | exact Nat.le_refl _⟩, ⟨by (with_reducible repeat (first | refine blk_drewN ?_ _ | refine blk_drew ?_ | refine blk_alloc ?_ _)); exact BK254.out⟩, ⟨qD120⟩⟩
                    · rw [if_neg c23] at H
                      have c23b0 : decide (0 ≤ t255) = false := decide_eq_false c23; clear c23; have H' := Aside0.mk H; clear H
                      go_wp2
                      go_meet
                      case rel => exact ⟨_, ((-1)), qD1212, H', ⟨by have := HJ11.out; have := HJ15.out; first | omega | exact Nat.le_refl _⟩, ⟨by (with_reducible repeat (first | refine blk_drewN ?_ _ | refine blk_drew ?_ | refine blk_alloc ?_ _)); exact BK254.out⟩, ⟨qD120⟩⟩
                  · rw [if_neg c22] at H
                    have c22b0 : decide ((wrap64 (bt a0 a1)) < 248) = false := decide_eq_false c22; clear c22; have H' := Aside0.mk H; clear H
                    go_wp2
                    go_meet
                    case rel => exact ⟨_, ((-1)), qD1212, H', ⟨by have := HJ11.out; have := HJ15.out; first | omega | exact Nat.le_refl _⟩, ⟨by (with_reducible repeat (first | refine blk_drewN ?_ _ | refine blk_drew ?_ | refine blk_alloc ?_ _)); exact BK254.out⟩, ⟨qD120⟩⟩
                · rw [if_neg c21] at H
                  have c21b0 : decide (240 ≤ (wrap64 (bt a0 a1))) = false := decide_eq_false c21; clear c21; have H' := Aside0.mk H; clear H
                  go_wp2
                  go_meet
                  case rel => exact ⟨_, ((-1)), qD1212, H', ⟨by have := HJ11.out; have := HJ15.out; first | omega | exact Nat.le_refl _⟩, ⟨by (with_reducible repeat (first | refine blk_drewN ?_ _ | refine blk_drew ?_ | refine blk_alloc ?_ _)); exact BK254.out⟩, ⟨qD120⟩⟩
     case rest =>
      clear HC9; (try clear c1); (try clear c2); (try clear p2); (try clear c3); (try clear c3b0); (try clear c4); (try clear c4b0); (try clear c5); (try clear p5); (try clear q5); (try clear hx5); (try clear p6); (try clear c11); (try clear c11b0); (try clear c13); (try clear c13b0); (try clear c14); (try clear c14b0); (try clear c15); (try clear c17); (try clear c17b0); (try clear c18); (try clear c18b0); (try clear c19); (try clear c19b0); (try clear c20); (try clear c21); (try clear c21b0); (try clear c22); (try clear c22b0); (try clear c23); (try clear c23b0); (try clear c24); (try clear c24b0); (try clear c25); (try clear c25b0); (try clear p2); (try clear p5); (try clear p6); (try clear q5); obtain ⟨kq, x9_8, rfl, HA, HJ8, BK254, HB⟩ := hcut
      cases kq with
      | zero => exact absurd HA.out (by simp [rectoref02_At.j2])
      | succ kj8 =>
       have H := HA.out; clear HA; simp only [rectoref02_At.j2] at H; replace H := Option.bind_eq_some_iff.mp H; obtain ⟨t258, A260, H⟩ := H
       replace H : (if t258 = true then ((rectoref02_Bytes.f kj8 x9_8).bind fun t259 => (if (wrap64 ((a0.size : Int) - a1)) < (t259.size : Int) then (some (65533, 1, false)) else (if 0 ≤ a1 then (if a1 ≤ (wrap64 (a1 + (t259.size : Int))) then (if (wrap64 (a1 + (t259.size : Int))) ≤ (a0.size : Int) then (if (a0.extract (a1 : Int).toNat ((wrap64 (a1 + (t259.size : Int))) : Int).toNat).toList = t259.toList then (some (x9_8, (t259.size : Int), true)) else (some (65533, 1, false))) else (none)) else (none)) else (none)))) else (some (65533, 1, false))) = some (r1, r2, r3) := H
       have A26 := Aside0.mk A260; clear A260
       by_cases c27 : t258 = true
       · subst c27
         have H1 : ((rectoref02_Bytes.f kj8 x9_8).bind fun t259 => (if (wrap64 ((a0.size : Int) - a1)) < (t259.size : Int) then (some (65533, 1, false)) else (if 0 ≤ a1 then (if a1 ≤ (wrap64 (a1 + (t259.size : Int))) then (if (wrap64 (a1 + (t259.size : Int))) ≤ (a0.size : Int) then (if (a0.extract (a1 : Int).toNat ((wrap64 (a1 + (t259.size : Int))) : Int).toNat).toList = t259.toList then (some (x9_8, (t259.size : Int), true)) else (some (65533, 1, false))) else (none)) else (none)) else (none)))) = some (r1, r2, r3) := by rw [if_pos rfl] at H; exact H
         clear H; have H := H1; clear H1; replace H := Option.bind_eq_some_iff.mp H; obtain ⟨t259, A280, H⟩ := H
         replace H : (if (wrap64 ((a0.size : Int) - a1)) < (t259.size : Int) then (some (65533, 1, false)) else (if 0 ≤ a1 then (if a1 ≤ (wrap64 (a1 + (t259.size : Int))) then (if (wrap64 (a1 + (t259.size : Int))) ≤ (a0.size : Int) then (if (a0.extract (a1 : Int).toNat ((wrap64 (a1 + (t259.size : Int))) : Int).toNat).toList = t259.toList then (some (x9_8, (t259.size : Int), true)) else (some (65533, 1, false))) else (none)) else (none)) else (none))) = some (r1, r2, r3) := H
         have A28 := Aside0.mk A280; clear A280
         by_cases c29 : (wrap64 ((a0.size : Int) - a1)) < (t259.size : Int)
         · rw [if_pos c29] at H
           have c29b0 : decide ((wrap64 ((a0.size : Int) - a1)) < (t259.size : Int)) = true := decide_eq_true c29; clear c29; simp only [Option.some.injEq, Prod.mk.injEq] at H; obtain ⟨rfl, rfl, rfl⟩ := H
           go_wp2_with (first | ((with_reducible refine gate_callee (f := 58) rfl ?_); refine goesL_ (some 97) rfl rfl Tryd.func58 (by kernel_rfl) rfl #[.int .i64 x9_8] rfl qD124 ?_; (with_reducible refine (rectoref02_Is.calls x9_8 true _ A26.out ?side1).mono ?_); (case side1 => exact qD1219); rintro e w' ⟨rfl, ⟨nd, rfl⟩⟩; refine ⟨_, rfl, ?_⟩; (try (rw [drewN_self wc]; generalize hq_ : World.drewN wc _ = wc; have n0_ : Aside0 (wc.heap[gb254]? = some (.cells #[.int .i64 0, .int .i64 0, .bool false] 75 (0, 0))) := ⟨by rw [← hq_]; exact qD1214⟩; have n1_ : Aside0 (Below w.heap.size w wc) := ⟨by rw [← hq_]; exact qD120⟩; clear BK254 HB hq_; have BK254 := n0_; have HB := n1_; clear n0_ n1_))) | ((with_reducible refine gate_callee (f := 59) rfl ?_); refine goesL_ (some 101) rfl rfl Tryd.func59 (by kernel_rfl) rfl #[.int .i64 x9_8] rfl qD124 ?_; (with_reducible refine (rectoref02_Bytes.calls kj8 x9_8 t259 _ A28.out ?side1).mono ?_); (case side1 => exact qD1219); rintro e w30 ⟨rfl, hb⟩; refine ⟨_, rfl, ?_⟩; have n0_ := Aside0.mk (blk_below (g := gb254) (o := .cells #[.int .i64 0, .int .i64 0, .bool false] 75 (0, 0)) qD1214 hb); have n1_ := Aside0.mk (below_step qD120 hb); clear BK254; clear HB; have BK254 := n0_; have HB := n1_; clear n0_ n1_; (try clear hb); (try clear hb2); (try clear hk); (try clear hi); have hcz31_0 : w30.cell? ⟨gb254, 0, none⟩ = some (.int .i64 0) := (blk_cell BK254.out 0).trans rfl; have hcz31_1 : w30.cell? ⟨gb254, 1, none⟩ = some (.int .i64 0) := (blk_cell BK254.out 1).trans rfl; have hcz31_2 : w30.cell? ⟨gb254, 2, none⟩ = some (.bool false) := (blk_cell BK254.out 2).trans rfl; have hfz31_0 := blk_frozen BK254.out 0; have hfz31_1 := blk_frozen BK254.out 1; have hfz31_2 := blk_frozen BK254.out 2))
           refine bodyPost_ret (results_cell_row rfl _ _ gb254 75 #[.int .i64 65533, .int .i64 1, .bool false] (0, 0) _ rfl qD121 Tryd.underlying75 rfl (by kernel_rfl)) rfl ?_
           exact ⟨qD1211, qD120⟩
         · rw [if_neg c29] at H
           have c29b0 : decide ((wrap64 ((a0.size : Int) - a1)) < (t259.size : Int)) = false := decide_eq_false c29; clear c29
           by_cases c32 : 0 ≤ a1
           · rw [if_pos c32] at H
             have c32b0 := eq_true c32; have c32b1 : decide (0 ≤ a1) = true := decide_eq_true c32; clear c32
             by_cases c33 : a1 ≤ (wrap64 (a1 + (t259.size : Int)))
             · rw [if_pos c33] at H
               have c33b0 := eq_true c33; have c33b1 : decide (a1 ≤ (wrap64 (a1 + (t259.size : Int)))) = true := decide_eq_true c33
               by_cases c34 : (wrap64 (a1 + (t259.size : Int))) ≤ (a0.size : Int)
               · rw [if_pos c34] at H
                 have c34b0 := eq_true c34; have c34b1 : decide ((wrap64 (a1 + (t259.size : Int))) ≤ (a0.size : Int)) = true := decide_eq_true c34
                 by_cases c35 : (a0.extract (a1 : Int).toNat ((wrap64 (a1 + (t259.size : Int))) : Int).toNat).toList = t259.toList
                 · rw [if_pos c35] at H
                   have c35b0 : ((a0.extract (a1 : Int).toNat ((wrap64 (a1 + (t259.size : Int))) : Int).toNat).toList == t259.toList) = true := beq_iff_eq.mpr c35
                   (try simp only [ByteArray.size_extract, Nat.min_self] at c35b0)
                   have c35b1 : ((a0.extract (a1 : Int).toNat ((wrap64 (a1 + (t259.size : Int))) : Int).toNat).toList != t259.toList) = false := bne_eq_false_iff_eq.mpr c35
                   (try simp only [ByteArray.size_extract, Nat.min_self] at c35b1)
                   clear c35; simp only [Option.some.injEq, Prod.mk.injEq] at H; obtain ⟨rfl, rfl, rfl⟩ := H
                   go_wp2_with (first | ((with_reducible refine gate_callee (f := 58) rfl ?_); refine goesL_ (some 97) rfl rfl Tryd.func58 (by kernel_rfl) rfl #[.int .i64 x9_8] rfl qD124 ?_; (with_reducible refine (rectoref02_Is.calls x9_8 true _ A26.out ?side1).mono ?_); (case side1 => exact qD1219); rintro e w' ⟨rfl, ⟨nd, rfl⟩⟩; refine ⟨_, rfl, ?_⟩; (try (rw [drewN_self wc]; generalize hq_ : World.drewN wc _ = wc; have n0_ : Aside0 (wc.heap[gb254]? = some (.cells #[.int .i64 0, .int .i64 0, .bool false] 75 (0, 0))) := ⟨by rw [← hq_]; exact qD1214⟩; have n1_ : Aside0 (Below w.heap.size w wc) := ⟨by rw [← hq_]; exact qD120⟩; clear BK254 HB hq_; have BK254 := n0_; have HB := n1_; clear n0_ n1_))) | ((with_reducible refine gate_callee (f := 59) rfl ?_); refine goesL_ (some 101) rfl rfl Tryd.func59 (by kernel_rfl) rfl #[.int .i64 x9_8] rfl qD124 ?_; (with_reducible refine (rectoref02_Bytes.calls kj8 x9_8 t259 _ A28.out ?side1).mono ?_); (case side1 => exact qD1219); rintro e w36 ⟨rfl, hb⟩; refine ⟨_, rfl, ?_⟩; have n0_ := Aside0.mk (blk_below (g := gb254) (o := .cells #[.int .i64 0, .int .i64 0, .bool false] 75 (0, 0)) qD1214 hb); have n1_ := Aside0.mk (below_step qD120 hb); clear BK254; clear HB; have BK254 := n0_; have HB := n1_; clear n0_ n1_; (try clear hb); (try clear hb2); (try clear hk); (try clear hi); have hcz37_0 : w36.cell? ⟨gb254, 0, none⟩ = some (.int .i64 0) := (blk_cell BK254.out 0).trans rfl; have hcz37_1 : w36.cell? ⟨gb254, 1, none⟩ = some (.int .i64 0) := (blk_cell BK254.out 1).trans rfl; have hcz37_2 : w36.cell? ⟨gb254, 2, none⟩ = some (.bool false) := (blk_cell BK254.out 2).trans rfl; have hfz37_0 := blk_frozen BK254.out 0; have hfz37_1 := blk_frozen BK254.out 1; have hfz37_2 := blk_frozen BK254.out 2))
                   refine bodyPost_ret (results_cell_row rfl _ _ gb254 75 #[.int .i64 x9_8, .int .i64 (t259.size : Int), .bool true] (0, 0) _ rfl (by (with_reducible repeat (first | refine blk_drewN ?_ _ | refine blk_drew ?_ | refine blk_alloc ?_ _)); refine blk_put (cs := #[.int .i64 x9_8, .int .i64 (t259.size : Int), .bool false]) ?_ 2 _ qD126; (with_reducible repeat (first | refine blk_drewN ?_ _ | refine blk_drew ?_ | refine blk_alloc ?_ _)); refine blk_put (cs := #[.int .i64 x9_8, .int .i64 0, .bool false]) ?_ 1 _ qD126; (with_reducible repeat (first | refine blk_drewN ?_ _ | refine blk_drew ?_ | refine blk_alloc ?_ _)); refine blk_put (cs := #[.int .i64 0, .int .i64 0, .bool false]) ?_ 0 _ qD126; (with_reducible repeat (first | refine blk_drewN ?_ _ | refine blk_drew ?_ | refine blk_alloc ?_ _)); exact BK254.out) Tryd.underlying75 rfl (by kernel_rfl)) rfl ?_
                   exact ⟨qD1211, qD120⟩
                 · rw [if_neg c35] at H
                   have c35b0 : ((a0.extract (a1 : Int).toNat ((wrap64 (a1 + (t259.size : Int))) : Int).toNat).toList == t259.toList) = false := beq_eq_false_iff_ne.mpr c35
                   (try simp only [ByteArray.size_extract, Nat.min_self] at c35b0)
                   have c35b1 : ((a0.extract (a1 : Int).toNat ((wrap64 (a1 + (t259.size : Int))) : Int).toNat).toList != t259.toList) = true := bne_iff_ne.mpr c35
                   (try simp only [ByteArray.size_extract, Nat.min_self] at c35b1)
                   simp only [Option.some.injEq, Prod.mk.injEq] at H; obtain ⟨rfl, rfl, rfl⟩ := H
                   go_wp2_with (first | ((with_reducible refine gate_callee (f := 58) rfl ?_); refine goesL_ (some 97) rfl rfl Tryd.func58 (by kernel_rfl) rfl #[.int .i64 x9_8] rfl qD124 ?_; (with_reducible refine (rectoref02_Is.calls x9_8 true _ A26.out ?side1).mono ?_); (case side1 => exact qD1219); rintro e w' ⟨rfl, ⟨nd, rfl⟩⟩; refine ⟨_, rfl, ?_⟩; (try (rw [drewN_self wc]; generalize hq_ : World.drewN wc _ = wc; have n0_ : Aside0 (wc.heap[gb254]? = some (.cells #[.int .i64 0, .int .i64 0, .bool false] 75 (0, 0))) := ⟨by rw [← hq_]; exact qD1214⟩; have n1_ : Aside0 (Below w.heap.size w wc) := ⟨by rw [← hq_]; exact qD120⟩; clear BK254 HB hq_; have BK254 := n0_; have HB := n1_; clear n0_ n1_))) | ((with_reducible refine gate_callee (f := 59) rfl ?_); refine goesL_ (some 101) rfl rfl Tryd.func59 (by kernel_rfl) rfl #[.int .i64 x9_8] rfl qD124 ?_; (with_reducible refine (rectoref02_Bytes.calls kj8 x9_8 t259 _ A28.out ?side1).mono ?_); (case side1 => exact qD1219); rintro e w38 ⟨rfl, hb⟩; refine ⟨_, rfl, ?_⟩; have n0_ := Aside0.mk (blk_below (g := gb254) (o := .cells #[.int .i64 0, .int .i64 0, .bool false] 75 (0, 0)) qD1214 hb); have n1_ := Aside0.mk (below_step qD120 hb); clear BK254; clear HB; have BK254 := n0_; have HB := n1_; clear n0_ n1_; (try clear hb); (try clear hb2); (try clear hk); (try clear hi); have hcz39_0 : w38.cell? ⟨gb254, 0, none⟩ = some (.int .i64 0) := (blk_cell BK254.out 0).trans rfl; have hcz39_1 : w38.cell? ⟨gb254, 1, none⟩ = some (.int .i64 0) := (blk_cell BK254.out 1).trans rfl; have hcz39_2 : w38.cell? ⟨gb254, 2, none⟩ = some (.bool false) := (blk_cell BK254.out 2).trans rfl; have hfz39_0 := blk_frozen BK254.out 0; have hfz39_1 := blk_frozen BK254.out 1; have hfz39_2 := blk_frozen BK254.out 2))
                   refine bodyPost_ret (results_cell_row rfl _ _ gb254 75 #[.int .i64 65533, .int .i64 1, .bool false] (0, 0) _ rfl qD121 Tryd.underlying75 rfl (by kernel_rfl)) rfl ?_
                   exact ⟨qD1211, qD120⟩
               · rw [if_neg c34] at H
                 exact absurd H (by simp)
             · rw [if_neg c33] at H
               exact absurd H (by simp)
           · rw [if_neg c32] at H
             exact absurd H (by simp)
       · replace c27 := Bool.eq_false_iff.mpr c27
         subst c27
         have H1 : (some (65533, 1, false)) = some (r1, r2, r3) := by rw [if_neg (show ¬ (false = true) by decide)] at H; exact H
         clear H; have H := H1; clear H1; simp only [Option.some.injEq, Prod.mk.injEq] at H; obtain ⟨rfl, rfl, rfl⟩ := H
         go_wp2_with (first | ((with_reducible refine gate_callee (f := 58) rfl ?_); refine goesL_ (some 97) rfl rfl Tryd.func58 (by kernel_rfl) rfl #[.int .i64 x9_8] rfl qD124 ?_; (with_reducible refine (rectoref02_Is.calls x9_8 false _ A26.out ?side1).mono ?_); (case side1 => exact qD1219); rintro e w' ⟨rfl, ⟨nd, rfl⟩⟩; refine ⟨_, rfl, ?_⟩; (try (rw [drewN_self wc]; generalize hq_ : World.drewN wc _ = wc; have n0_ : Aside0 (wc.heap[gb254]? = some (.cells #[.int .i64 0, .int .i64 0, .bool false] 75 (0, 0))) := ⟨by rw [← hq_]; exact qD1214⟩; have n1_ : Aside0 (Below w.heap.size w wc) := ⟨by rw [← hq_]; exact qD120⟩; clear BK254 HB hq_; have BK254 := n0_; have HB := n1_; clear n0_ n1_)); have hcz40_0 : wc.cell? ⟨gb254, 0, none⟩ = some (.int .i64 0) := (blk_cell BK254.out 0).trans rfl; have hcz40_1 : wc.cell? ⟨gb254, 1, none⟩ = some (.int .i64 0) := (blk_cell BK254.out 1).trans rfl; have hcz40_2 : wc.cell? ⟨gb254, 2, none⟩ = some (.bool false) := (blk_cell BK254.out 2).trans rfl; have hfz40_0 := blk_frozen BK254.out 0; have hfz40_1 := blk_frozen BK254.out 1; have hfz40_2 := blk_frozen BK254.out 2))
         refine bodyPost_ret (results_cell_row rfl _ _ gb254 75 #[.int .i64 65533, .int .i64 1, .bool false] (0, 0) _ rfl qD121 Tryd.underlying75 rfl (by kernel_rfl)) rfl ?_
         exact ⟨qD1211, qD120⟩
   · rw [if_neg c4] at H
     exact absurd H (by simp)
 · rw [if_neg c3] at H
   exact absurd H (by simp)

/-! ### rectoref02_Of: function 49 -/
def rectoref02_Of.l0 : Nat → ByteArray → Int → List Int → Bool → Option (List Int × Bool)
 | 0, _, _, _, _ => none
 | k + 1, x0, x4, x262000, x262001 => if x4 < (x0.size : Int) then ((rectoref02_At.f k x0 x4).bind fun bt262 => (if x262000.length < 17592186044416 then ((some (x262000 ++ [bt262.1] : List Int)).bind fun y266 => (if x262001 = true then (rectoref02_Of.l0 k x0 (wrap64 (x4 + bt262.2.1)) y266 bt262.2.2) else (rectoref02_Of.l0 k x0 (wrap64 (x4 + bt262.2.1)) y266 false))) else (none))) else (some (x262000, x262001))
def rectoref02_Of.f (k : Nat) (a0 : ByteArray) : Option (List Int × Bool) := rectoref02_Of.l0 k a0 0 ([] : List Int) true
theorem rectoref02_Of.mono_l : ∀ k, (∀ y0 y1 y2 y3, LeO (rectoref02_Of.l0 k y0 y1 y2 y3) (rectoref02_Of.l0 (k + 1) y0 y1 y2 y3))
 | 0 => fun _ _ _ _ r h => by simp [rectoref02_Of.l0] at h
 | k + 1 => by
  have ih0 := rectoref02_Of.mono_l k
  · intro y0 y1 y2 y3
    unfold rectoref02_Of.l0
    repeat' first
    | (with_reducible exact ih0 _ _ _ _)
    | (with_reducible exact rectoref02_At.mono _ _ _)
    | (with_reducible exact LeO.refl _)
    | (with_reducible exact LeO.none _)
    | (with_reducible refine LeO.ite ?_ ?_)
    | (with_reducible refine LeO.bind ?_ (fun _ => ?_))
    | exact ih0 _ _ _ _
    | exact rectoref02_At.mono _ _ _
    | exact LeO.none _
    | refine LeO.ite ?_ ?_
    | refine LeO.bind ?_ (fun _ => ?_)
theorem rectoref02_Of.mono : ∀ a0 k, LeO (rectoref02_Of.f k a0) (rectoref02_Of.f (k + 1) a0) := by
 intro a0 k
 have ih0 := rectoref02_Of.mono_l k; unfold rectoref02_Of.f
 repeat' first
  | (with_reducible exact ih0 _ _ _ _)
  | (with_reducible exact rectoref02_At.mono _ _ _)
  | (with_reducible exact LeO.refl _)
  | (with_reducible exact LeO.none _)
  | (with_reducible refine LeO.ite ?_ ?_)
  | (with_reducible refine LeO.bind ?_ (fun _ => ?_))
  | exact ih0 _ _ _ _
  | exact rectoref02_At.mono _ _ _
  | exact LeO.none _
  | refine LeO.ite ?_ ?_
  | refine LeO.bind ?_ (fun _ => ?_)
set_option maxHeartbeats 8000000 in
set_option maxRecDepth 100000 in
theorem rectoref02_Of.calls (k : Nat) (a0 : ByteArray) (r1 : List Int) (r2 : Bool) (w : World) (h : rectoref02_Of.f k a0 = some (r1, r2)) (HG : Aside0 (Laid w)) :
 Calls Tryd.prog 49 #[.string a0] w fun e w' => ∃ v0_ : Value, e = .returned (.agg #[v0_, .bool r2]) ∧ Kd.R (Kd.int .i64) 3 w' w.heap.size (fun _ => True) v0_ r1 ∧ Below w.heap.size w w' := by
 have hu70 := Tryd.underlying70; have hu75 := Tryd.underlying75; have HB := Aside0.mk (Below.refl w.heap.size w); have H : (rectoref02_Of.l0 k a0 0 ([] : List Int) true) = some (r1, r2) := h; clear h; have H' := Aside0.mk H; clear H
 go_enter Tryd.func49, Tryd.ntmps49
 go_wp2_with (first | ((with_reducible refine gate_dst (N := 2) rfl ?_); refine box_event ?hg (N := 2) ?hd (cs := #[.slice none 0 0, .bool false]) (t := 70) ?hr ?_; (case hd => rfl); (case hg => rfl); (case hr => exact qD1218); intro gb260 hg w2 hbox hb; have n0_ := Aside0.mk (below_step qD122 hb); have n1_ := Aside0.mk (hbox); have n2_ := Aside0.mk ((by rw [hg]; exact (below_size qD122) : w.heap.size ≤ gb260)); have n3_ := Aside0.mk ((by rw [hg]; exact (below_size qD122) : w.heap.size ≤ gb260)); clear HB; have HB := n0_; have BK260 := n1_; have GW260 := n2_; have GE260 := n3_; clear n0_ n1_ n2_ n3_; clear hb hbox hg) | ((with_reducible refine gate_dst (N := 3) rfl ?_); refine box_event ?hg (N := 3) ?hd (cs := #[.slice none 0 0, .bool false]) (t := 70) ?hr ?_; (case hd => rfl); (case hg => rfl); (case hr => exact qD1218); intro gb261 hg w3 hbox hb; have n0_ := Aside0.mk (blk_below (g := gb260) (o := .cells #[.slice none 0 0, .bool false] 70 (0, 0)) qD128 hb); have n1_ := Aside0.mk (below_step qD1217 hb); have n2_ := Aside0.mk (hbox); have n3_ := Aside0.mk ((by rw [hg]; exact (below_size qD1217) : w.heap.size ≤ gb261)); have n4_ := Aside0.mk ((by rw [hg]; exact (below_size qD1217) : w.heap.size ≤ gb261)); have n5_ := Aside0.mk ((by rw [hg]; exact Nat.ne_of_lt (blk_lt (g := gb260) (o := .cells #[.slice none 0 0, .bool false] 70 (0, 0)) qD128) : gb260 ≠ gb261)); have n6_ := Aside0.mk ((by rw [hg]; exact Nat.ne_of_gt (blk_lt (g := gb260) (o := .cells #[.slice none 0 0, .bool false] 70 (0, 0)) qD128) : gb261 ≠ gb260)); clear BK260; clear HB; have BK260 := n0_; have HB := n1_; have BK261 := n2_; have GW261 := n3_; have GE261 := n4_; have NB260_261 := n5_; have NB261_260 := n6_; clear n0_ n1_ n2_ n3_ n4_ n5_ n6_; clear hb hbox hg; have hnb4 := NB261_260.out; have hnc4 := NB260_261.out; have hcz5_0 : w3.cell? ⟨gb261, 0, none⟩ = some (.slice none 0 0) := (blk_cell BK261.out 0).trans rfl; have hcz5_1 : w3.cell? ⟨gb261, 1, none⟩ = some (.bool false) := (blk_cell BK261.out 1).trans rfl; have hfz5_0 := blk_frozen BK261.out 0; have hfz5_1 := blk_frozen BK261.out 1))
 go_loopg [4] k (fun kq v4 w' => ∃ (x4_1 : Int) (x262000_1 : List Int) (x262001_1 : Bool) (u262000 : Value), v4 = .int .i64 x4_1 ∧ Aside0 (rectoref02_Of.l0 kq a0 x4_1 x262000_1 x262001_1 = some (r1, r2)) ∧ Aside0 (kq ≤ k) ∧ Aside0 (Kd.R (Kd.int .i64) 3 w' w.heap.size (fun _ => True) u262000 x262000_1) ∧ Aside0 (w'.heap[gb260]? = some (.cells #[(.slice none 0 0), .bool false] 70 (0, 0))) ∧ Aside0 (w'.heap[gb261]? = some (.cells #[u262000, .bool x262001_1] 70 (0, 0))) ∧ Aside0 (Below w.heap.size w w'))
 case atStart => exact ⟨(0), (([] : List Int)), (true), (.slice none 0 0), qD1212, H', ⟨Nat.le_refl _⟩, ⟨by first | exact Kd.R_nil _ _ _ _ _ | exact Kd.N_nil _ _ _ _ _ | exact Kd.V_nil _ _ _ _ _ | exact Kd.Q_nil _ _ _ _ _ | exact Kd.S_nil _ _ _ _ _⟩, ⟨by (with_reducible repeat (first | refine blk_drewN ?_ _ | refine blk_drew ?_ | refine blk_alloc ?_ _)); refine blk_far ?_ NB260_261.out _; (with_reducible repeat (first | refine blk_drewN ?_ _ | refine blk_drew ?_ | refine blk_alloc ?_ _)); refine blk_far ?_ NB260_261.out _; (with_reducible repeat (first | refine blk_drewN ?_ _ | refine blk_drew ?_ | refine blk_alloc ?_ _)); exact BK260.out⟩, ⟨by (with_reducible repeat (first | refine blk_drewN ?_ _ | refine blk_drew ?_ | refine blk_alloc ?_ _)); refine blk_put (cs := #[.slice none 0 0, .bool false]) ?_ 1 _ qD126; (with_reducible repeat (first | refine blk_drewN ?_ _ | refine blk_drew ?_ | refine blk_alloc ?_ _)); refine blk_put (cs := #[.slice none 0 0, .bool false]) ?_ 0 _ qD126; (with_reducible repeat (first | refine blk_drewN ?_ _ | refine blk_drew ?_ | refine blk_alloc ?_ _)); exact BK261.out⟩, ⟨qD123⟩⟩
 case round =>
  clear H'; (try clear p2); (try clear c4); (try clear hcz5_0); (try clear hcz5_1); (try clear hfz5_0); (try clear hfz5_1); obtain ⟨x4_1, x262000_1, x262001_1, u262000, rfl, HA, HK1, HO_262000, BK260, BK261, HB⟩ := hrel
  cases gk with
  | zero => exact absurd HA.out (by simp [rectoref02_Of.l0])
  | succ k1 =>
   have H := HA.out; clear HA; simp only [rectoref02_Of.l0] at H
   by_cases c6 : x4_1 < (a0.size : Int)
   · rw [if_pos c6] at H
     have c6b0 : decide (x4_1 < (a0.size : Int)) = true := decide_eq_true c6; clear c6; replace H := Option.bind_eq_some_iff.mp H; obtain ⟨⟨t262, t263, t264⟩, A70, H⟩ := H
     replace H : (if x262000_1.length < 17592186044416 then ((some (x262000_1 ++ [t262] : List Int)).bind fun y266 => (if x262001_1 = true then (rectoref02_Of.l0 k1 a0 (wrap64 (x4_1 + t263)) y266 t264) else (rectoref02_Of.l0 k1 a0 (wrap64 (x4_1 + t263)) y266 false))) else (none)) = some (r1, r2) := H
     have A7 := Aside0.mk A70; clear A70
     by_cases c8 : x262000_1.length < 17592186044416
     · rw [if_pos c8] at H
       have LMc8 := Aside0.mk c8; clear c8; obtain ⟨y266, hy266⟩ : ∃ y_ : List Int, y_ = (x262000_1 ++ [t262]) := ⟨_, rfl⟩
       replace H : (if x262001_1 = true then (rectoref02_Of.l0 k1 a0 (wrap64 (x4_1 + t263)) y266 t264) else (rectoref02_Of.l0 k1 a0 (wrap64 (x4_1 + t263)) y266 false)) = some (r1, r2) := by first | (rw [hy266]; with_reducible exact H) | (have H2_ := (Option.bind_some _ _).symm.trans H; rw [hy266]; with_reducible exact H2_) | (have H2_ := (Option.bind_some _ _).symm.trans H; with_reducible exact H2_) | with_reducible exact H | (rw [hy266]; exact H) | exact H
       have Ny266 := Aside0.mk hy266; clear hy266
       by_cases c9 : x262001_1 = true
       · subst c9
         have H1 : (rectoref02_Of.l0 k1 a0 (wrap64 (x4_1 + t263)) y266 t264) = some (r1, r2) := by rw [if_pos rfl] at H; exact H
         clear H; have H := H1; clear H1; have H' := Aside0.mk H; clear H
         go_wp2_with (first | ((with_reducible refine gate_callee (f := 54) rfl ?_); refine goesL_ (some 13) rfl rfl Tryd.func54 (by kernel_rfl) rfl #[.string a0, .int .i64 x4_1] rfl qD124 ?_; (with_reducible refine (rectoref02_At.calls k1 a0 x4_1 t262 t263 t264 _ A7.out ?side1).mono ?_); (case side1 => exact Aside0.mk (Laid.below HG.out qD123)); rintro e w10 ⟨rfl, hb⟩; refine ⟨_, rfl, ?_⟩; have n0_ := Aside0.mk (Kd.R_below (mRD12 HO_262000.out) hb); have n1_ := Aside0.mk (blk_below (g := gb260) (o := .cells #[.slice none 0 0, .bool false] 70 (0, 0)) qD128 hb); have n2_ := Aside0.mk (blk_below (g := gb261) (o := .cells #[u262000, .bool true] 70 (0, 0)) qD1213 hb); have n3_ := Aside0.mk (below_step qD123 hb); clear HO_262000; clear BK260; clear BK261; clear HB; have HO_262000 := n0_; have BK260 := n1_; have BK261 := n2_; have HB := n3_; clear n0_ n1_ n2_ n3_; (try clear hb); (try clear hb2); (try clear hk); (try clear hi)) | ((with_reducible refine gate_dst (N := 5) rfl ?_); refine box_event ?hg (N := 5) ?hd (cs := #[.int .i64 0, .int .i64 0, .bool false]) (t := 75) ?hr ?_; (case hd => rfl); (case hg => rfl); (case hr => exact qD1218); intro gb265 hg w11 hbox hb; have n0_ := Aside0.mk (Kd.R_below (mRD12 HO_262000.out) hb); have n1_ := Aside0.mk (blk_below (g := gb260) (o := .cells #[.slice none 0 0, .bool false] 70 (0, 0)) qD128 hb); have n2_ := Aside0.mk (blk_below (g := gb261) (o := .cells #[u262000, .bool true] 70 (0, 0)) qD1213 hb); have n3_ := Aside0.mk (below_step qD123 hb); have n4_ := Aside0.mk (hbox); have n5_ := Aside0.mk ((by rw [hg]; exact (below_size qD123) : w.heap.size ≤ gb265)); have n6_ := Aside0.mk ((by rw [hg]; exact (below_size qD123) : w.heap.size ≤ gb265)); have n7_ := Aside0.mk ((by rw [hg]; exact Nat.ne_of_lt (blk_lt (g := gb260) (o := .cells #[.slice none 0 0, .bool false] 70 (0, 0)) qD128) : gb260 ≠ gb265)); have n8_ := Aside0.mk ((by rw [hg]; exact Nat.ne_of_gt (blk_lt (g := gb260) (o := .cells #[.slice none 0 0, .bool false] 70 (0, 0)) qD128) : gb265 ≠ gb260)); have n9_ := Aside0.mk ((by rw [hg]; exact Nat.ne_of_lt (blk_lt (g := gb261) (o := .cells #[u262000, .bool true] 70 (0, 0)) qD1213) : gb261 ≠ gb265)); have n10_ := Aside0.mk ((by rw [hg]; exact Nat.ne_of_gt (blk_lt (g := gb261) (o := .cells #[u262000, .bool true] 70 (0, 0)) qD1213) : gb265 ≠ gb261)); clear HO_262000; clear BK260; clear BK261; clear HB; have HO_262000 := n0_; have BK260 := n1_; have BK261 := n2_; have HB := n3_; have BK265 := n4_; have GW265 := n5_; have GE265 := n6_; have NB260_265 := n7_; have NB265_260 := n8_; have NB261_265 := n9_; have NB265_261 := n10_; clear n0_ n1_ n2_ n3_ n4_ n5_ n6_ n7_ n8_ n9_ n10_; clear hb hbox hg; have hnb12 := NB265_260.out; have hnc12 := NB260_265.out; have hnb13 := NB265_261.out; have hnc13 := NB261_265.out; have hcz14_0 : w11.cell? ⟨gb265, 0, none⟩ = some (.int .i64 0) := (blk_cell BK265.out 0).trans rfl; have hcz14_1 : w11.cell? ⟨gb265, 1, none⟩ = some (.int .i64 0) := (blk_cell BK265.out 1).trans rfl; have hcz14_2 : w11.cell? ⟨gb265, 2, none⟩ = some (.bool false) := (blk_cell BK265.out 2).trans rfl; have hfz14_0 := blk_frozen BK265.out 0; have hfz14_1 := blk_frozen BK265.out 1; have hfz14_2 := blk_frozen BK265.out 2; have hnb15 := NB261_260.out; have hnc15 := NB260_261.out; have hcz16_0 : w11.cell? ⟨gb261, 0, none⟩ = some (u262000) := (blk_cell BK261.out 0).trans rfl; have hcz16_1 : w11.cell? ⟨gb261, 1, none⟩ = some (.bool true) := (blk_cell BK261.out 1).trans rfl; have hfz16_0 := blk_frozen BK261.out 0; have hfz16_1 := blk_frozen BK261.out 1) | ((with_reducible refine gate_builtin (b := .append) (xs := #[.tmp 15, .tmp 18]) rfl ?_); at_builtin; refine Kd.R_append (Kd.int .i64) (w0 := w) w.heap.size rfl (.tmp 15) (.tmp 18) 29 3 (.int .i64 0) 8 rfl Tryd.underlying29 info3 rfl (by decide) (by omega) u262000 x262000_1 t262 [.int .i64 t262] (fun _ => True) (fun _ => False) rfl qD1218 ?aP (fun _ hk => hk.elim) ?aF ?aO ?aB ?aS ?aL ?_; (case aP => exact rfl); (case aB => exact qD127); (case aF => exact (fun _ _ => trivial)); (case aO => exact qD1215); (case aS => exact (below_size qD127)); (case aL => have := LMc8.out; omega); intro v267 w17 ho hb hg hat; rw [← Ny266.out] at ho; have n0_ := Aside0.mk (blk_grown (g := gb260) (o := .cells #[.slice none 0 0, .bool false] 70 (0, 0)) qD129 hg (Kd.R_ne HO_262000.out BK260.out (by decide))); have n1_ := Aside0.mk (blk_grown (g := gb261) (o := .cells #[u262000, .bool true] 70 (0, 0)) qD1210 hg (Kd.R_ne HO_262000.out BK261.out (by decide))); have n2_ := Aside0.mk (blk_grown (g := gb265) (o := .cells #[.int .i64 t262, .int .i64 t263, .bool t264] 75 (0, 0)) qD125 hg (Kd.R_ne HO_262000.out BK265.out (by decide))); have n3_ := Aside0.mk (hb); have n4_ := Aside0.mk (ho); clear BK260; clear BK261; clear BK265; clear HB; clear HO_262000; have BK260 := n0_; have BK261 := n1_; have BK265 := n2_; have HB := n3_; have HO268 := n4_; clear n0_ n1_ n2_ n3_ n4_; clear ho hb hg hat; obtain ⟨Ao18, co18, eo18⟩ := Kd.R_slice HO268.out; subst eo18; have hcz19_0 : w17.cell? ⟨gb261, 0, none⟩ = some (u262000) := (blk_cell BK261.out 0).trans rfl; have hcz19_1 : w17.cell? ⟨gb261, 1, none⟩ = some (.bool true) := (blk_cell BK261.out 1).trans rfl; have hfz19_0 := blk_frozen BK261.out 0; have hfz19_1 := blk_frozen BK261.out 1; have hcz20_0 : w17.cell? ⟨gb265, 0, none⟩ = some (.int .i64 t262) := (blk_cell BK265.out 0).trans rfl; have hcz20_1 : w17.cell? ⟨gb265, 1, none⟩ = some (.int .i64 t263) := (blk_cell BK265.out 1).trans rfl; have hcz20_2 : w17.cell? ⟨gb265, 2, none⟩ = some (.bool t264) := (blk_cell BK265.out 2).trans rfl; have hfz20_0 := blk_frozen BK265.out 0; have hfz20_1 := blk_frozen BK265.out 1; have hfz20_2 := blk_frozen BK265.out 2))
         go_roundg k1
         case measure => have := HK1.out; omega
         case rel => exact ⟨(wrap64 (x4_1 + t263)), (y266), (t264), (.slice Ao18 y266.length co18), qD1212, H', ⟨by have := HK1.out; omega⟩, ⟨by (with_reducible repeat (first | apply Kd.R_alloc | apply Kd.R_drewN | apply Kd.R_drew)); exact Kd.R_mono (Kd.R_far (p := ⟨gb261, 1, none⟩) (Kd.R_far (p := ⟨gb261, 0, none⟩) (Kd.R_types HO268.out BK261.out (by decide)) (fun _ hk => hk.2) (.slice Ao18 y266.length co18)) (fun _ hk => hk.2) (.bool t264)) (fun _ hk => trivial)⟩, ⟨by (with_reducible repeat (first | refine blk_drewN ?_ _ | refine blk_drew ?_ | refine blk_alloc ?_ _)); refine blk_far ?_ NB260_261.out _; (with_reducible repeat (first | refine blk_drewN ?_ _ | refine blk_drew ?_ | refine blk_alloc ?_ _)); refine blk_far ?_ NB260_261.out _; (with_reducible repeat (first | refine blk_drewN ?_ _ | refine blk_drew ?_ | refine blk_alloc ?_ _)); exact BK260.out⟩, ⟨by (with_reducible repeat (first | refine blk_drewN ?_ _ | refine blk_drew ?_ | refine blk_alloc ?_ _)); refine blk_put (cs := #[.slice Ao18 y266.length co18, .bool true]) ?_ 1 _ qD126; (with_reducible repeat (first | refine blk_drewN ?_ _ | refine blk_drew ?_ | refine blk_alloc ?_ _)); refine blk_put (cs := #[u262000, .bool true]) ?_ 0 _ qD126; (with_reducible repeat (first | refine blk_drewN ?_ _ | refine blk_drew ?_ | refine blk_alloc ?_ _)); exact BK261.out⟩, ⟨qD127⟩⟩
       · replace c9 := Bool.eq_false_iff.mpr c9
         subst c9
         have H1 : (rectoref02_Of.l0 k1 a0 (wrap64 (x4_1 + t263)) y266 false) = some (r1, r2) := by rw [if_neg (show ¬ (false = true) by decide)] at H; exact H
         clear H; have H := H1; clear H1; have H' := Aside0.mk H; clear H
         go_wp2_with (first | ((with_reducible refine gate_callee (f := 54) rfl ?_); refine goesL_ (some 13) rfl rfl Tryd.func54 (by kernel_rfl) rfl #[.string a0, .int .i64 x4_1] rfl qD124 ?_; (with_reducible refine (rectoref02_At.calls k1 a0 x4_1 t262 t263 t264 _ A7.out ?side1).mono ?_); (case side1 => exact Aside0.mk (Laid.below HG.out qD123)); rintro e w21 ⟨rfl, hb⟩; refine ⟨_, rfl, ?_⟩; have n0_ := Aside0.mk (Kd.R_below (mRD12 HO_262000.out) hb); have n1_ := Aside0.mk (blk_below (g := gb260) (o := .cells #[.slice none 0 0, .bool false] 70 (0, 0)) qD128 hb); have n2_ := Aside0.mk (blk_below (g := gb261) (o := .cells #[u262000, .bool false] 70 (0, 0)) qD1213 hb); have n3_ := Aside0.mk (below_step qD123 hb); clear HO_262000; clear BK260; clear BK261; clear HB; have HO_262000 := n0_; have BK260 := n1_; have BK261 := n2_; have HB := n3_; clear n0_ n1_ n2_ n3_; (try clear hb); (try clear hb2); (try clear hk); (try clear hi)) | ((with_reducible refine gate_dst (N := 5) rfl ?_); refine box_event ?hg (N := 5) ?hd (cs := #[.int .i64 0, .int .i64 0, .bool false]) (t := 75) ?hr ?_; (case hd => rfl); (case hg => rfl); (case hr => exact qD1218); intro gb265 hg w22 hbox hb; have n0_ := Aside0.mk (Kd.R_below (mRD12 HO_262000.out) hb); have n1_ := Aside0.mk (blk_below (g := gb260) (o := .cells #[.slice none 0 0, .bool false] 70 (0, 0)) qD128 hb); have n2_ := Aside0.mk (blk_below (g := gb261) (o := .cells #[u262000, .bool false] 70 (0, 0)) qD1213 hb); have n3_ := Aside0.mk (below_step qD123 hb); have n4_ := Aside0.mk (hbox); have n5_ := Aside0.mk ((by rw [hg]; exact (below_size qD123) : w.heap.size ≤ gb265)); have n6_ := Aside0.mk ((by rw [hg]; exact (below_size qD123) : w.heap.size ≤ gb265)); have n7_ := Aside0.mk ((by rw [hg]; exact Nat.ne_of_lt (blk_lt (g := gb260) (o := .cells #[.slice none 0 0, .bool false] 70 (0, 0)) qD128) : gb260 ≠ gb265)); have n8_ := Aside0.mk ((by rw [hg]; exact Nat.ne_of_gt (blk_lt (g := gb260) (o := .cells #[.slice none 0 0, .bool false] 70 (0, 0)) qD128) : gb265 ≠ gb260)); have n9_ := Aside0.mk ((by rw [hg]; exact Nat.ne_of_lt (blk_lt (g := gb261) (o := .cells #[u262000, .bool false] 70 (0, 0)) qD1213) : gb261 ≠ gb265)); have n10_ := Aside0.mk ((by rw [hg]; exact Nat.ne_of_gt (blk_lt (g := gb261) (o := .cells #[u262000, .bool false] 70 (0, 0)) qD1213) : gb265 ≠ gb261)); clear HO_262000; clear BK260; clear BK261; clear HB; have HO_262000 := n0_; have BK260 := n1_; have BK261 := n2_; have HB := n3_; have BK265 := n4_; have GW265 := n5_; have GE265 := n6_; have NB260_265 := n7_; have NB265_260 := n8_; have NB261_265 := n9_; have NB265_261 := n10_; clear n0_ n1_ n2_ n3_ n4_ n5_ n6_ n7_ n8_ n9_ n10_; clear hb hbox hg; have hnb23 := NB265_260.out; have hnc23 := NB260_265.out; have hnb24 := NB265_261.out; have hnc24 := NB261_265.out; have hcz25_0 : w22.cell? ⟨gb265, 0, none⟩ = some (.int .i64 0) := (blk_cell BK265.out 0).trans rfl; have hcz25_1 : w22.cell? ⟨gb265, 1, none⟩ = some (.int .i64 0) := (blk_cell BK265.out 1).trans rfl; have hcz25_2 : w22.cell? ⟨gb265, 2, none⟩ = some (.bool false) := (blk_cell BK265.out 2).trans rfl; have hfz25_0 := blk_frozen BK265.out 0; have hfz25_1 := blk_frozen BK265.out 1; have hfz25_2 := blk_frozen BK265.out 2; have hnb26 := NB261_260.out; have hnc26 := NB260_261.out; have hcz27_0 : w22.cell? ⟨gb261, 0, none⟩ = some (u262000) := (blk_cell BK261.out 0).trans rfl; have hcz27_1 : w22.cell? ⟨gb261, 1, none⟩ = some (.bool false) := (blk_cell BK261.out 1).trans rfl; have hfz27_0 := blk_frozen BK261.out 0; have hfz27_1 := blk_frozen BK261.out 1) | ((with_reducible refine gate_builtin (b := .append) (xs := #[.tmp 15, .tmp 18]) rfl ?_); at_builtin; refine Kd.R_append (Kd.int .i64) (w0 := w) w.heap.size rfl (.tmp 15) (.tmp 18) 29 3 (.int .i64 0) 8 rfl Tryd.underlying29 info3 rfl (by decide) (by omega) u262000 x262000_1 t262 [.int .i64 t262] (fun _ => True) (fun _ => False) rfl qD1218 ?aP (fun _ hk => hk.elim) ?aF ?aO ?aB ?aS ?aL ?_; (case aP => exact rfl); (case aB => exact qD127); (case aF => exact (fun _ _ => trivial)); (case aO => exact qD1215); (case aS => exact (below_size qD127)); (case aL => have := LMc8.out; omega); intro v267 w28 ho hb hg hat; rw [← Ny266.out] at ho; have n0_ := Aside0.mk (blk_grown (g := gb260) (o := .cells #[.slice none 0 0, .bool false] 70 (0, 0)) qD129 hg (Kd.R_ne HO_262000.out BK260.out (by decide))); have n1_ := Aside0.mk (blk_grown (g := gb261) (o := .cells #[u262000, .bool false] 70 (0, 0)) qD1210 hg (Kd.R_ne HO_262000.out BK261.out (by decide))); have n2_ := Aside0.mk (blk_grown (g := gb265) (o := .cells #[.int .i64 t262, .int .i64 t263, .bool t264] 75 (0, 0)) qD125 hg (Kd.R_ne HO_262000.out BK265.out (by decide))); have n3_ := Aside0.mk (hb); have n4_ := Aside0.mk (ho); clear BK260; clear BK261; clear BK265; clear HB; clear HO_262000; have BK260 := n0_; have BK261 := n1_; have BK265 := n2_; have HB := n3_; have HO268 := n4_; clear n0_ n1_ n2_ n3_ n4_; clear ho hb hg hat; obtain ⟨Ao29, co29, eo29⟩ := Kd.R_slice HO268.out; subst eo29; have hcz30_0 : w28.cell? ⟨gb261, 0, none⟩ = some (u262000) := (blk_cell BK261.out 0).trans rfl; have hcz30_1 : w28.cell? ⟨gb261, 1, none⟩ = some (.bool false) := (blk_cell BK261.out 1).trans rfl; have hfz30_0 := blk_frozen BK261.out 0; have hfz30_1 := blk_frozen BK261.out 1; have hcz31_0 : w28.cell? ⟨gb265, 0, none⟩ = some (.int .i64 t262) := (blk_cell BK265.out 0).trans rfl; have hcz31_1 : w28.cell? ⟨gb265, 1, none⟩ = some (.int .i64 t263) := (blk_cell BK265.out 1).trans rfl; have hcz31_2 : w28.cell? ⟨gb265, 2, none⟩ = some (.bool t264) := (blk_cell BK265.out 2).trans rfl; have hfz31_0 := blk_frozen BK265.out 0; have hfz31_1 := blk_frozen BK265.out 1; have hfz31_2 := blk_frozen BK265.out 2))
         go_roundg k1
         case measure => have := HK1.out; omega
         case rel => exact ⟨(wrap64 (x4_1 + t263)), (y266), (false), (.slice Ao29 y266.length co29), qD1212, H', ⟨by have := HK1.out; omega⟩, ⟨by (with_reducible repeat (first | apply Kd.R_alloc | apply Kd.R_drewN | apply Kd.R_drew)); exact Kd.R_mono (Kd.R_far (p := ⟨gb261, 1, none⟩) (Kd.R_far (p := ⟨gb261, 0, none⟩) (Kd.R_types HO268.out BK261.out (by decide)) (fun _ hk => hk.2) (.slice Ao29 y266.length co29)) (fun _ hk => hk.2) (.bool false)) (fun _ hk => trivial)⟩, ⟨by (with_reducible repeat (first | refine blk_drewN ?_ _ | refine blk_drew ?_ | refine blk_alloc ?_ _)); refine blk_far ?_ NB260_261.out _; (with_reducible repeat (first | refine blk_drewN ?_ _ | refine blk_drew ?_ | refine blk_alloc ?_ _)); refine blk_far ?_ NB260_261.out _; (with_reducible repeat (first | refine blk_drewN ?_ _ | refine blk_drew ?_ | refine blk_alloc ?_ _)); exact BK260.out⟩, ⟨by (with_reducible repeat (first | refine blk_drewN ?_ _ | refine blk_drew ?_ | refine blk_alloc ?_ _)); refine blk_put (cs := #[.slice Ao29 y266.length co29, .bool false]) ?_ 1 _ qD126; (with_reducible repeat (first | refine blk_drewN ?_ _ | refine blk_drew ?_ | refine blk_alloc ?_ _)); refine blk_put (cs := #[u262000, .bool false]) ?_ 0 _ qD126; (with_reducible repeat (first | refine blk_drewN ?_ _ | refine blk_drew ?_ | refine blk_alloc ?_ _)); exact BK261.out⟩, ⟨qD127⟩⟩
     · rw [if_neg c8] at H
       exact absurd H (by simp)
   · rw [if_neg c6] at H
     have c6b0 : decide (x4_1 < (a0.size : Int)) = false := decide_eq_false c6; clear c6; simp only [Option.some.injEq, Prod.mk.injEq] at H; obtain ⟨rfl, rfl⟩ := H; have hnb32 := NB261_260.out; have hnc32 := NB260_261.out; have hcz33_0 : wr.cell? ⟨gb261, 0, none⟩ = some (u262000) := (blk_cell BK261.out 0).trans rfl; have hcz33_1 : wr.cell? ⟨gb261, 1, none⟩ = some (.bool x262001_1) := (blk_cell BK261.out 1).trans rfl; have hfz33_0 := blk_frozen BK261.out 0; have hfz33_1 := blk_frozen BK261.out 1; obtain ⟨Ao34, co34, eo34⟩ := Kd.R_slice HO_262000.out; subst eo34; have hcz35_0 : wr.cell? ⟨gb260, 0, none⟩ = some (.slice none 0 0) := (blk_cell BK260.out 0).trans rfl; have hcz35_1 : wr.cell? ⟨gb260, 1, none⟩ = some (.bool false) := (blk_cell BK260.out 1).trans rfl; have hfz35_0 := blk_frozen BK260.out 0; have hfz35_1 := blk_frozen BK260.out 1
     go_wp2
     refine bodyPost_ret (results_cell_row rfl _ _ gb260 70 #[.slice Ao34 x262000_1.length co34, .bool x262001_1] (0, 0) _ rfl (by (with_reducible repeat (first | refine blk_drewN ?_ _ | refine blk_drew ?_ | refine blk_alloc ?_ _)); refine blk_put (cs := #[.slice Ao34 x262000_1.length co34, .bool false]) ?_ 1 _ qD126; (with_reducible repeat (first | refine blk_drewN ?_ _ | refine blk_drew ?_ | refine blk_alloc ?_ _)); refine blk_put (cs := #[.slice none 0 0, .bool false]) ?_ 0 _ qD126; (with_reducible repeat (first | refine blk_drewN ?_ _ | refine blk_drew ?_ | refine blk_alloc ?_ _)); exact BK260.out) Tryd.underlying70 rfl (by kernel_rfl)) rfl ?_
     exact ⟨_, qD1211, by (with_reducible repeat (first | apply Kd.R_alloc | apply Kd.R_drewN | apply Kd.R_drew)); exact Kd.R_mono (Kd.R_far (p := ⟨gb260, 1, none⟩) (Kd.R_far (p := ⟨gb260, 0, none⟩) (Kd.R_types HO_262000.out BK260.out (by decide)) (fun _ hk => hk.2) (.slice Ao34 x262000_1.length co34)) (fun _ hk => hk.2) (.bool x262001_1)) (fun _ hk => trivial), qD123⟩

/-! ### rectoref06_Good: function 46 -/
def rectoref06_Good.l0 : Nat → ByteArray → Int → Option (Bool)
 | 0, _, _ => none
 | k + 1, x0, x3 => if x3 < (x0.size : Int) then (if 0 ≤ x3 then (if (bt x0 x3) = 0 then (some false) else (if (bt x0 x3) = 13 then (some false) else (rectoref06_Good.l0 k x0 (wrap64 (x3 + 1))))) else (none)) else ((rectoref02_Of.f k x0).bind fun bt269 => (some bt269.2))
def rectoref06_Good.f (k : Nat) (a0 : ByteArray) : Option (Bool) := rectoref06_Good.l0 k a0 0
theorem rectoref06_Good.mono_l : ∀ k, (∀ y0 y1, LeO (rectoref06_Good.l0 k y0 y1) (rectoref06_Good.l0 (k + 1) y0 y1))
 | 0 => fun _ _ r h => by simp [rectoref06_Good.l0] at h
 | k + 1 => by
  have ih0 := rectoref06_Good.mono_l k
  · intro y0 y1
    unfold rectoref06_Good.l0
    repeat' first
    | (with_reducible exact ih0 _ _)
    | (with_reducible exact rectoref02_Of.mono _ _)
    | (with_reducible exact LeO.refl _)
    | (with_reducible exact LeO.none _)
    | (with_reducible refine LeO.ite ?_ ?_)
    | (with_reducible refine LeO.bind ?_ (fun _ => ?_))
    | exact ih0 _ _
    | exact rectoref02_Of.mono _ _
    | exact LeO.none _
    | refine LeO.ite ?_ ?_
    | refine LeO.bind ?_ (fun _ => ?_)
theorem rectoref06_Good.mono : ∀ a0 k, LeO (rectoref06_Good.f k a0) (rectoref06_Good.f (k + 1) a0) := by
 intro a0 k
 have ih0 := rectoref06_Good.mono_l k; unfold rectoref06_Good.f
 repeat' first
  | (with_reducible exact ih0 _ _)
  | (with_reducible exact rectoref02_Of.mono _ _)
  | (with_reducible exact LeO.refl _)
  | (with_reducible exact LeO.none _)
  | (with_reducible refine LeO.ite ?_ ?_)
  | (with_reducible refine LeO.bind ?_ (fun _ => ?_))
  | exact ih0 _ _
  | exact rectoref02_Of.mono _ _
  | exact LeO.none _
  | refine LeO.ite ?_ ?_
  | refine LeO.bind ?_ (fun _ => ?_)
set_option maxHeartbeats 8000000 in
set_option maxRecDepth 100000 in
theorem rectoref06_Good.calls (k : Nat) (a0 : ByteArray) (r : Bool) (w : World) (h : rectoref06_Good.f k a0 = some r) (HG : Aside0 (Laid w)) :
 Calls Tryd.prog 46 #[.string a0] w fun e w' => e = .returned (.bool r) ∧ Below w.heap.size w w' := by
 have hfl70_1 : ∀ (w : World) (v0_ : Value) (x1_ : Bool), (Instr.field 70 (.agg #[v0_, .bool x1_]) 1).run Tryd.prog w = .ok (.bool x1_) w := fun _ _ _ => by kernel_rfl
 have HB := Aside0.mk (Below.refl w.heap.size w); have H : (rectoref06_Good.l0 k a0 0) = some r := h; clear h; have H' := Aside0.mk H; clear H
 go_enter Tryd.func46, Tryd.ntmps46
 go_wp2
 go_loopg [3] k (fun kq v3 w' => ∃ (x3_1 : Int), v3 = .int .i64 x3_1 ∧ Aside0 (rectoref06_Good.l0 kq a0 x3_1 = some r) ∧ Aside0 (kq ≤ k) ∧ Aside0 (Below w.heap.size w w'))
 case atStart => exact ⟨(0), qD1212, H', ⟨Nat.le_refl _⟩, ⟨qD122⟩⟩
 case round =>
  clear H'; obtain ⟨x3_1, rfl, HA, HK1, HB⟩ := hrel
  cases gk with
  | zero => exact absurd HA.out (by simp [rectoref06_Good.l0])
  | succ k1 =>
   have H := HA.out; clear HA; simp only [rectoref06_Good.l0] at H
   by_cases c2 : x3_1 < (a0.size : Int)
   · rw [if_pos c2] at H
     have c2b0 : decide (x3_1 < (a0.size : Int)) = true := decide_eq_true c2; clear c2
     by_cases c3 : 0 ≤ x3_1
     · rw [if_pos c3] at H
       have c3b0 : decide (0 ≤ x3_1) = true := decide_eq_true c3; clear c3
       by_cases c5 : (bt a0 x3_1) = 0
       · rw [if_pos c5] at H
         have c5b0 : ((bt a0 x3_1) == 0) = true := beq_iff_eq.mpr c5; have c5b1 : ((bt a0 x3_1) != 0) = false := bne_eq_false_iff_eq.mpr c5; clear c5; obtain rfl := Option.some.inj H; have p4 : 0 ≤ (x3_1 : Int) := of_decide_eq_true qD1216; have q4 : x3_1 < (a0.size : Int) := of_decide_eq_true qD1216; have hx4 := bt_at a0 x3_1; replace p4 := eq_true p4; replace q4 := eq_true q4
         go_wp2
         go_ret
         exact ⟨qD1211, qD122⟩
       · rw [if_neg c5] at H
         have c5b0 : ((bt a0 x3_1) == 0) = false := beq_eq_false_iff_ne.mpr c5; have c5b1 : ((bt a0 x3_1) != 0) = true := bne_iff_ne.mpr c5
         by_cases c7 : (bt a0 x3_1) = 13
         · rw [if_pos c7] at H
           have c7b0 : ((bt a0 x3_1) == 13) = true := beq_iff_eq.mpr c7; have c7b1 : ((bt a0 x3_1) != 13) = false := bne_eq_false_iff_eq.mpr c7; clear c7; obtain rfl := Option.some.inj H; have p4 : 0 ≤ (x3_1 : Int) := of_decide_eq_true qD1216; have q4 : x3_1 < (a0.size : Int) := of_decide_eq_true qD1216; have hx4 := bt_at a0 x3_1; replace p4 := eq_true p4; replace q4 := eq_true q4; have p6 : 0 ≤ (x3_1 : Int) := of_decide_eq_true qD1216; have q6 : x3_1 < (a0.size : Int) := of_decide_eq_true qD1216; have hx6 := bt_at a0 x3_1; replace p6 := eq_true p6; replace q6 := eq_true q6
           go_wp2
           go_ret
           exact ⟨qD1211, qD122⟩
         · rw [if_neg c7] at H
           have c7b0 : ((bt a0 x3_1) == 13) = false := beq_eq_false_iff_ne.mpr c7; have c7b1 : ((bt a0 x3_1) != 13) = true := bne_iff_ne.mpr c7; have H' := Aside0.mk H; clear H; have p4 : 0 ≤ (x3_1 : Int) := of_decide_eq_true qD1216; have q4 : x3_1 < (a0.size : Int) := of_decide_eq_true qD1216; have hx4 := bt_at a0 x3_1; replace p4 := eq_true p4; replace q4 := eq_true q4; have p6 : 0 ≤ (x3_1 : Int) := of_decide_eq_true qD1216; have q6 : x3_1 < (a0.size : Int) := of_decide_eq_true qD1216; have hx6 := bt_at a0 x3_1; replace p6 := eq_true p6; replace q6 := eq_true q6
           go_wp2
           go_roundg k1
           case measure => have := HK1.out; omega
           case rel => exact ⟨(wrap64 (x3_1 + 1)), qD1212, H', ⟨by have := HK1.out; omega⟩, ⟨qD122⟩⟩
     · rw [if_neg c3] at H
       exact absurd H (by simp)
   · rw [if_neg c2] at H
     have c2b0 : decide (x3_1 < (a0.size : Int)) = false := decide_eq_false c2; clear c2; replace H := Option.bind_eq_some_iff.mp H; obtain ⟨⟨t269, t272⟩, A80, H⟩ := H; replace H : (some t272) = some r := H; have A8 := Aside0.mk A80; clear A80; obtain rfl := Option.some.inj H
     go_wp2_with (first | ((with_reducible refine gate_callee (f := 49) rfl ?_); refine goesL_ (some 21) rfl rfl Tryd.func49 (by kernel_rfl) rfl #[.string a0] rfl qD124 ?_; (with_reducible refine (rectoref02_Of.calls k1 a0 t269 t272 _ A8.out ?side1).mono ?_); (case side1 => exact Aside0.mk (Laid.below HG.out qD122)); rintro e w9 ⟨v270, rfl, ho0, hb⟩; refine ⟨_, rfl, ?_⟩; have n0_ := Aside0.mk (Kd.R_lower ho0 (below_size qD122)); have n1_ := Aside0.mk (below_step qD122 hb); clear HB; have HO271 := n0_; have HB := n1_; clear n0_ n1_; (try clear hb); (try clear hb2); (try clear hk); (try clear hi); (try clear ho0)))
     go_ret
     exact ⟨qD1211, qD122⟩

/-! ### rectoref31_Title: function 42 -/
def rectoref31_Title.f (k : Nat) (a0 : ByteArray) : Option (Bool) := if (a0.size : Int) > 0 then (if (a0.size : Int) < 41 then ((rectoref06_Good.f k a0).bind fun t273 => (some t273)) else (some false)) else (some false)
theorem rectoref31_Title.mono : ∀ a0 k, LeO (rectoref31_Title.f k a0) (rectoref31_Title.f (k + 1) a0) := by
 intro a0 k
 unfold rectoref31_Title.f
 repeat' first
  | (with_reducible exact rectoref06_Good.mono _ _)
  | (with_reducible exact LeO.refl _)
  | (with_reducible exact LeO.none _)
  | (with_reducible refine LeO.ite ?_ ?_)
  | (with_reducible refine LeO.bind ?_ (fun _ => ?_))
  | exact rectoref06_Good.mono _ _
  | exact LeO.none _
  | refine LeO.ite ?_ ?_
  | refine LeO.bind ?_ (fun _ => ?_)
set_option maxHeartbeats 8000000 in
set_option maxRecDepth 100000 in
theorem rectoref31_Title.calls (k : Nat) (a0 : ByteArray) (r : Bool) (w : World) (h : rectoref31_Title.f k a0 = some r) (HG : Aside0 (Laid w)) :
 Calls Tryd.prog 42 #[.string a0] w fun e w' => e = .returned (.bool r) ∧ Below w.heap.size w w' := by
 have HB := Aside0.mk (Below.refl w.heap.size w)
 have H : (if (a0.size : Int) > 0 then (if (a0.size : Int) < 41 then ((rectoref06_Good.f k a0).bind fun t273 => (some t273)) else (some false)) else (some false)) = some r := h
 clear h
 by_cases c2 : (a0.size : Int) > 0
 · rw [if_pos c2] at H
   have c2b0 : decide (0 < (a0.size : Int)) = true := decide_eq_true c2; have c2b1 : decide (0 < a0.size) = true := decide_eq_true (by omega); clear c2
   by_cases c3 : (a0.size : Int) < 41
   · rw [if_pos c3] at H
     have c3b0 : decide ((a0.size : Int) < 41) = true := decide_eq_true c3; have c3b1 : decide (a0.size < 41) = true := decide_eq_true (by omega); clear c3; replace H := Option.bind_eq_some_iff.mp H; obtain ⟨t273, A40, H⟩ := H; replace H : (some t273) = some r := H; have A4 := Aside0.mk A40; clear A40; obtain rfl := Option.some.inj H
     go_enter Tryd.func42, Tryd.ntmps42
     go_wp2_with (first | (go_at_call 46; (with_reducible refine (rectoref06_Good.calls k a0 t273 _ A4.out ?side1).mono ?_); (case side1 => exact Aside0.mk (Laid.below HG.out qD122)); rintro e w5 ⟨rfl, hb⟩; have n0_ := Aside0.mk (below_step qD122 hb); clear HB; have HB := n0_; clear n0_; (try clear hb); (try clear hb2); (try clear hk); (try clear hi)))
     go_ret
     exact ⟨qD1211, qD122⟩
   · rw [if_neg c3] at H
     have c3b0 : decide ((a0.size : Int) < 41) = false := decide_eq_false c3; have c3b1 : decide (a0.size < 41) = false := decide_eq_false (by omega); clear c3; obtain rfl := Option.some.inj H
     go_enter Tryd.func42, Tryd.ntmps42
     go_wp2
     go_ret
     exact ⟨qD1211, qD122⟩
 · rw [if_neg c2] at H
   have c2b0 : decide (0 < (a0.size : Int)) = false := decide_eq_false c2; have c2b1 : decide (0 < a0.size) = false := decide_eq_false (by omega); clear c2; obtain rfl := Option.some.inj H
   go_enter Tryd.func42, Tryd.ntmps42
   go_wp2
   go_ret
   exact ⟨qD1211, qD122⟩

end Go.Proofs.YtgopimjfoppkmaaDoor.D
