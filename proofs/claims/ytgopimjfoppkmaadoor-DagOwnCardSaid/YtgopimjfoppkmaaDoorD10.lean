/- Printed functions, each with a proof that the call answers so. -/
import Derived.Test.YtgopimjfoppkmaaDoorD0
import Derived.Test.YtgopimjfoppkmaaDoorD6
import Derived.Test.YtgopimjfoppkmaaDoorD9
namespace Go.Proofs.YtgopimjfoppkmaaDoor.D
open Go.RowKit Go.Proofs.YtgopimjfoppkmaaDoorW.PrintWords Go.Proofs.YtgopimjfoppkmaaDoorW.PrintLast Go.Proofs.YtgopimjfoppkmaaDoorW.PrintMore
attribute [local go_sem] max2_int min2_int max_two min_two max_three min_three max_four min_four   -- for this text's walks alone
set_option linter.unusedVariables false
set_option linter.unusedSimpArgs false

theorem mND10 {p q : Prop} (x : q) (h : q → p := by intro x_; (with_reducible repeat (first | apply Kd.N_alloc | apply Kd.N_drewN | apply Kd.N_drew)); exact x_) : p := h x
theorem mVD10 {p q : Prop} (x : q) (h : q → p := by intro x_; (with_reducible repeat (first | apply Kd.V_alloc | apply Kd.V_drewN | apply Kd.V_drew)); exact x_) : p := h x
abbrev bD100 : Array Bool := #[false, false, false, false, false, false, false]
abbrev bD101 : Array Bool := #[true, false, false, false, false, false, false]
abbrev bD102 : Array Bool := #[true, false, true, false, false, false, false]
abbrev bD103 : Array Bool := #[true, true, true, true, false, false, false]
abbrev bD104 : Array Bool := #[true, true, true, false, false, false, false]
abbrev bD105 : Array Bool := #[true, false, true, true, false, false, false]
abbrev bD106 : Array Bool := #[true, true, true, true, true, false, false]
abbrev bD107 : Array Bool := #[true, true, true, true, true, true, false]
abbrev bD108 : Array Bool := #[true, true, true, true, true, true, true]
theorem qsD100 {p : Prop} (h : p := by simp only [Act.put, List.setIfInBounds_toArray, List.set_cons_zero, List.set_cons_succ, i64_w, i32_w]; rfl) : p := h
theorem qD100 {p : Prop} (h : p := by repeat (first | (with_reducible first | exact HB.out | apply below_alloc | apply pw_below_drewN | apply below_drew1 | refine below_set ?_ GE185.out) | exact HB.out)) : p := h
theorem qD101 {p : Prop} (h : p := by (with_reducible repeat (first | refine blk_drewN ?_ _ | refine blk_drew ?_ | refine blk_alloc ?_ _)); exact BK185.out) : p := h
theorem qD102 {p : Prop} (h : p := by exact (Reps.c4 (show Kd.FK k43 _ _ (⟨wrap64 ((l0.length : Int) + 1), a1_1, a1_2, l1_3⟩ : S43) [.int .i64 (wrap64 ((l0.length : Int) + 1)), .string a1_1, .int .i64 a1_2, .slice A1_3 l1_3.length c1_3] from (k43_mkF _ _ (⟨wrap64 ((l0.length : Int) + 1), a1_1, a1_2, l1_3⟩ : S43) (Kd.V_reads' (Kd.V_mono (ok' := (fun k_ => ((P0_ k_ ∨ P1_3_ k_) ∨ w.heap.size ≤ k_) ∧ some k_ ≠ (v187 : Value).ownBlock ∧ k_ ≠ gb185)) (HO1_3.out) (fun k_ hk => ⟨hk.1.1, ⟨hk.2, hk.1.2⟩⟩))).2.1 (Kd.V_F (Kd.V_mono (ok' := (fun k_ => ((P0_ k_ ∨ P1_3_ k_) ∨ w.heap.size ≤ k_) ∧ some k_ ≠ (v187 : Value).ownBlock ∧ k_ ≠ gb185)) (HO1_3.out) (fun k_ hk => ⟨hk.1.1, ⟨hk.2, hk.1.2⟩⟩))))) (Reps.none _ _))) : p := h
theorem qD103 {p : Prop} (h : p := by repeat (first | (with_reducible first | exact HB.out | apply below_alloc | apply pw_below_drewN | apply below_drew1) | exact HB.out)) : p := h
theorem qD104 {p : Prop} (h : p := by exact (Reps.c4 (show Kd.FK k43 _ _ (⟨wrap64 ((l0.length : Int) + 1), a1_1, a1_2, l1_3⟩ : S43) [.int .i64 (wrap64 ((l0.length : Int) + 1)), .string a1_1, .int .i64 a1_2, .slice A1_3 l1_3.length c1_3] from (k43_mkF _ _ (⟨wrap64 ((l0.length : Int) + 1), a1_1, a1_2, l1_3⟩ : S43) (Kd.V_reads' (Kd.V_mono (ok' := (fun k_ => ((P0_ k_ ∨ P1_3_ k_) ∨ w.heap.size ≤ k_) ∧ k_ ≠ gb185)) (HO1_3.out) (fun k_ hk => ⟨hk.1, hk.2⟩))).2.1 (Kd.V_F (Kd.V_mono (ok' := (fun k_ => ((P0_ k_ ∨ P1_3_ k_) ∨ w.heap.size ≤ k_) ∧ k_ ≠ gb185)) (HO1_3.out) (fun k_ hk => ⟨hk.1, hk.2⟩))))) (Reps.none _ _))) : p := h
theorem qD105 {p : Prop} (h : p := by (try simp only [List.map_toArray, List.map_cons, List.map_nil]); first | done | rfl | (simp only [List.length_drop, List.length_take]; rfl)) : p := h
theorem qD106 {p : Prop} (h : p := by exact (by skip; exact Kd.N_F (Kd.N_mono (ok' := (fun k_ => ((fun k_ => ((P0_ k_ ∨ P1_3_ k_) ∨ w.heap.size ≤ k_) ∧ k_ ≠ gb185)) k_ ∧ some k_ ≠ (v187 : Value).ownBlock)) (HO191.out) (fun k_ hk => ⟨⟨hk.1, hk.2.2⟩, hk.2.1⟩)))) : p := h
theorem qD107 {p : Prop} (h : p := by simp only [putAll, Act.put, List.setIfInBounds_toArray, List.set_cons_zero, List.set_cons_succ]) : p := h
theorem qD108 {p : Prop} (h : p := by repeat (first | exact (Kd.N_reads' HO197.out).2.2 | (with_reducible refine Kd.C_alloc ?_ _) | (with_reducible refine Kd.C_drewN ?_ _) | (with_reducible refine Kd.C_drew ?_))) : p := h
theorem qD109 {p : Prop} (h : p := by (with_reducible repeat (first | apply Kd.V_alloc | apply Kd.V_drewN | apply Kd.V_drew)); exact Kd.V_mono HO1_3.out (fun _ hk => ⟨hk.1.1.1, ⟨hk.1.2, ⟨hk.2, hk.1.1.2⟩⟩⟩)) : p := h
theorem qD1010 {p : Prop} (h : p := by (with_reducible repeat (first | apply Kd.V_alloc | apply Kd.V_drewN | apply Kd.V_drew)); exact Kd.V_mono HO1_3.out (fun _ hk => ⟨hk.1.1.1, ⟨hk.2, ⟨hk.1.2, hk.1.1.2⟩⟩⟩)) : p := h
theorem qD1011 {p : Prop} (h : p := by (with_reducible repeat (first | apply Kd.V_alloc | apply Kd.V_drewN | apply Kd.V_drew)); exact Kd.V_mono HO1_3.out (fun _ hk => ⟨⟨hk.1, ⟨hk.2.2.1, hk.2.2.2⟩⟩, hk.2.1⟩)) : p := h
theorem qD1012 {p : Prop} (h : p := by (with_reducible repeat (first | apply Kd.V_alloc | apply Kd.V_drewN | apply Kd.V_drew)); exact Kd.V_mono HO0.out (fun _ hk => ⟨hk.1.1.1, ⟨hk.1.2, ⟨hk.2, hk.1.1.2⟩⟩⟩)) : p := h
theorem qD1013 {p : Prop} (h : p := by (with_reducible repeat (first | apply Kd.V_alloc | apply Kd.V_drewN | apply Kd.V_drew)); exact Kd.V_mono HO0.out (fun _ hk => ⟨hk.1.1.1, ⟨hk.2, ⟨hk.1.2, hk.1.1.2⟩⟩⟩)) : p := h
theorem qD1014 {p : Prop} (h : p := by (with_reducible repeat (first | apply Kd.V_alloc | apply Kd.V_drewN | apply Kd.V_drew)); exact Kd.V_mono HO0.out (fun _ hk => ⟨⟨hk.1, ⟨hk.2.2.1, hk.2.2.2⟩⟩, hk.2.1⟩)) : p := h
theorem qD1015 {p : Prop} (h : p := by exact (by (with_reducible repeat (first | apply Kd.N_alloc | apply Kd.N_drewN | apply Kd.N_drew)); exact Kd.N_mono HO188.out (fun _ hk => ⟨hk.1, hk.2.2⟩))) : p := h
theorem qD1016 {p : Prop} (h : p := by (with_reducible repeat (first | apply Kd.N_alloc | apply Kd.N_drewN | apply Kd.N_drew)); exact Kd.N_mono HO188.out (fun _ hk => ⟨hk.1.1, ⟨hk.2, hk.1.2⟩⟩)) : p := h
theorem qD1017 {p : Prop} (h : p := by (with_reducible repeat (first | apply Kd.N_alloc | apply Kd.N_drewN | apply Kd.N_drew)); exact Kd.N_mono HO191.out (fun _ hk => ⟨hk.1.1, ⟨hk.2, hk.1.2⟩⟩)) : p := h
theorem qD1018 {p : Prop} (h : p := by (with_reducible repeat (first | apply Kd.N_alloc | apply Kd.N_drewN | apply Kd.N_drew)); exact Kd.N_mono HO191.out (fun _ hk => ⟨⟨hk.1, hk.2.2⟩, hk.2.1⟩)) : p := h
theorem qD1019 {p : Prop} (h : p := by first | rfl | (simp [errW_none, errW_some] <;> rfl) | (simp [*, errW_none, errW_some] <;> rfl)) : p := h
theorem qD1020 {p : Prop} (h : p := by first | (go_simp; done) | (go_simp; rfl)) : p := h
theorem qD1021 {p : Prop} (h : p := by first | exact Kd.S_nil _ _ _ _ _ | exact Kd.N_nil _ _ _ _ _ | exact Kd.V_nil _ _ _ _ _ | exact Kd.Q_nil _ _ _ _ _ | exact Kd.R_nil _ _ _ _ _) : p := h
theorem qD1022 {p : Prop} (h : p := by first | rfl | (simp only [*]; done) | (simp only [*]; rfl)) : p := h
theorem qD1023 {p : Prop} (h : p := by exact (fun k_ hk => ⟨(.inr (Nat.le_trans (below_size qD100) hk)), Kd.freshB (g := gb185) (o := .cells #[.int .i64 (wrap64 ((l0.length : Int) + 1)), .string a1_1, .int .i64 a1_2, .slice A1_3 l1_3.length c1_3] 43 (0, 0)) qD101 k_ hk⟩)) : p := h
theorem qD1024 {p : Prop} (h : p := by exact Aside0.mk (Laid.below HG.out qD100)) : p := h
/-! ### dag_Add: function 23 -/
def dag_Add.f (k : Nat) (l0 : List (S43)) (a1_0 : Int) (a1_1 : ByteArray) (a1_2 : Int) (l1_3 : List Int) : Option ((List (S43)) × Int) := if (l0.length : Int) ≥ 1000 then (some (([] : List (S43)), 5)) else ((dag_Rev.f l0).bind fun t186 => ((some (([(⟨wrap64 ((l0.length : Int) + 1), a1_1, a1_2, l1_3⟩ : S43)] : List (S43)) : List (S43))).bind fun y189 => (if t186.length + y189.length < 2513169434916 then ((dag_copied.f k (t186 ++ y189)).bind fun t195 => ((dag_Check.f k t195).bind fun t198 => (if t198 = 0 then (some (t195, 0)) else (some (([] : List (S43)), 4))))) else (none))))
theorem dag_Add.mono : ∀ a0 a1 a2 a3 a4 k, LeO (dag_Add.f k a0 a1 a2 a3 a4) (dag_Add.f (k + 1) a0 a1 a2 a3 a4) := by
 intro a0 a1 a2 a3 a4 k
 unfold dag_Add.f
 repeat' first
  | (with_reducible exact dag_Check.mono _ _)
  | (with_reducible exact dag_copied.mono _ _)
  | (with_reducible exact LeO.refl _)
  | (with_reducible exact LeO.none _)
  | (with_reducible refine LeO.ite ?_ ?_)
  | (with_reducible refine LeO.bind ?_ (fun _ => ?_))
  | exact dag_Check.mono _ _
  | exact dag_copied.mono _ _
  | exact LeO.none _
  | refine LeO.ite ?_ ?_
  | refine LeO.bind ?_ (fun _ => ?_)
set_option maxHeartbeats 8000000 in
set_option maxRecDepth 100000 in
theorem dag_Add.calls (k : Nat) (P0_ : Nat → Prop) (A0 : Option Addr) (c0 : Nat) (l0 : List (S43)) (a1_0 : Int) (a1_1 : ByteArray) (a1_2 : Int) (P1_3_ : Nat → Prop) (A1_3 : Option Addr) (c1_3 : Nat) (l1_3 : List Int) (r1 : List (S43)) (r2 : Int) (w : World) (hs0 : Kd.V k43 43 w w.heap.size (fun k_ => P0_ k_) (.slice A0 l0.length c0) l0) (hs1_3 : Kd.V (Kd.int .i64) 3 w w.heap.size (fun k_ => P1_3_ k_) (.slice A1_3 l1_3.length c1_3) l1_3) (h : dag_Add.f k l0 a1_0 a1_1 a1_2 l1_3 = some (r1, r2)) (HG : Aside0 (Laid w)) :
 Calls Tryd.prog 23 #[.slice A0 l0.length c0, .agg #[.int .i64 a1_0, .string a1_1, .int .i64 a1_2, .slice A1_3 l1_3.length c1_3]] w fun e w' => ∃ v0_ : Value, e = .returned (.tuple #[v0_, .int .i64 r2]) ∧ Kd.N k43 43 w' w.heap.size (fun k_ => ((P0_ k_ ∨ P1_3_ k_) ∨ w.heap.size ≤ k_)) v0_ r1 ∧ Below w.heap.size w w' := by
 have hu43 := Tryd.underlying43
 have HO0 := Aside0.mk (show Kd.V k43 43 w w.heap.size (fun k_ => ((P0_ k_ ∨ P1_3_ k_) ∨ w.heap.size ≤ k_)) (.slice A0 l0.length c0) l0 from Kd.V_mono hs0 (fun k_ hk => .inl (.inl hk)))
 have HO1_3 := Aside0.mk (show Kd.V (Kd.int .i64) 3 w w.heap.size (fun k_ => ((P0_ k_ ∨ P1_3_ k_) ∨ w.heap.size ≤ k_)) (.slice A1_3 l1_3.length c1_3) l1_3 from Kd.V_mono hs1_3 (fun k_ hk => .inl (.inr hk)))
 have HB := Aside0.mk (Below.refl w.heap.size w)
 have H : (if (l0.length : Int) ≥ 1000 then (some (([] : List (S43)), 5)) else ((dag_Rev.f l0).bind fun t186 => ((some (([(⟨wrap64 ((l0.length : Int) + 1), a1_1, a1_2, l1_3⟩ : S43)] : List (S43)) : List (S43))).bind fun y189 => (if t186.length + y189.length < 2513169434916 then ((dag_copied.f k (t186 ++ y189)).bind fun t195 => ((dag_Check.f k t195).bind fun t198 => (if t198 = 0 then (some (t195, 0)) else (some (([] : List (S43)), 4))))) else (none))))) = some (r1, r2) := h
 clear h
 by_cases c3 : (l0.length : Int) ≥ 1000
 · rw [if_pos c3] at H
   have c3b0 : decide (1000 ≤ (l0.length : Int)) = true := decide_eq_true c3; have c3b1 : decide (1000 ≤ l0.length) = true := decide_eq_true (by omega); clear c3; simp only [Option.some.injEq, Prod.mk.injEq] at H; obtain ⟨rfl, rfl⟩ := H
   go_enter Tryd.func23, Tryd.ntmps23
   go_wp2_with (first | ((with_reducible refine gate_dst (N := 3) rfl ?_); refine box_event ?hg (N := 3) ?hd (cs := #[.int .i64 a1_0, .string a1_1, .int .i64 a1_2, .slice A1_3 l1_3.length c1_3]) (t := 43) ?hr ?_; (case hd => rfl); (case hg => rfl); (case hr => exact qD1020); intro gb185 hg w4 hbox hb; have n0_ := Aside0.mk (Kd.V_below (Kd.V_elderB (mVD10 HO0.out) gb185 (Nat.le_of_eq hg.symm)) hb); have n1_ := Aside0.mk (Kd.V_below (Kd.V_elderB (mVD10 HO1_3.out) gb185 (Nat.le_of_eq hg.symm)) hb); have n2_ := Aside0.mk (below_step qD103 hb); have n3_ := Aside0.mk (hbox); have n4_ := Aside0.mk ((by rw [hg]; exact (below_size qD103) : w.heap.size ≤ gb185)); have n5_ := Aside0.mk ((by rw [hg]; exact (below_size qD103) : w.heap.size ≤ gb185)); clear HO0; clear HO1_3; clear HB; have HO0 := n0_; have HO1_3 := n1_; have HB := n2_; have BK185 := n3_; have GW185 := n4_; have GE185 := n5_; clear n0_ n1_ n2_ n3_ n4_ n5_; clear hb hbox hg))
   go_ret2
   exact ⟨_, qD1019, qD1021, qD100⟩
 · rw [if_neg c3] at H
   have c3b0 : decide (1000 ≤ (l0.length : Int)) = false := decide_eq_false c3; have c3b1 : decide (1000 ≤ l0.length) = false := decide_eq_false (by omega); clear c3; replace H := Option.bind_eq_some_iff.mp H; obtain ⟨t186, A50, H⟩ := H
   replace H : ((some (([(⟨wrap64 ((l0.length : Int) + 1), a1_1, a1_2, l1_3⟩ : S43)] : List (S43)) : List (S43))).bind fun y189 => (if t186.length + y189.length < 2513169434916 then ((dag_copied.f k (t186 ++ y189)).bind fun t195 => ((dag_Check.f k t195).bind fun t198 => (if t198 = 0 then (some (t195, 0)) else (some (([] : List (S43)), 4))))) else (none))) = some (r1, r2) := H
   have A5 := Aside0.mk A50; clear A50; obtain ⟨y189, hy189⟩ : ∃ y_ : List (S43), y_ = (([(⟨wrap64 ((l0.length : Int) + 1), a1_1, a1_2, l1_3⟩ : S43)] : List (S43))) := ⟨_, rfl⟩
   replace H : (if t186.length + y189.length < 2513169434916 then ((dag_copied.f k (t186 ++ y189)).bind fun t195 => ((dag_Check.f k t195).bind fun t198 => (if t198 = 0 then (some (t195, 0)) else (some (([] : List (S43)), 4))))) else (none)) = some (r1, r2) := by first | (rw [hy189]; with_reducible exact H) | (have H2_ := (Option.bind_some _ _).symm.trans H; rw [hy189]; with_reducible exact H2_) | (have H2_ := (Option.bind_some _ _).symm.trans H; with_reducible exact H2_) | with_reducible exact H | (rw [hy189]; exact H) | exact H
   have Ny189 := Aside0.mk hy189; clear hy189
   by_cases c6 : t186.length + y189.length < 2513169434916
   · rw [if_pos c6] at H
     have LMc6 := Aside0.mk c6; clear c6; obtain ⟨y192, hy192⟩ : ∃ y_ : List (S43), y_ = (t186 ++ y189) := ⟨_, rfl⟩
     replace H : ((dag_copied.f k y192).bind fun t195 => ((dag_Check.f k t195).bind fun t198 => (if t198 = 0 then (some (t195, 0)) else (some (([] : List (S43)), 4))))) = some (r1, r2) := by first | (rw [hy192]; with_reducible exact H) | (have H2_ := (Option.bind_some _ _).symm.trans H; rw [hy192]; with_reducible exact H2_) | (have H2_ := (Option.bind_some _ _).symm.trans H; with_reducible exact H2_) | with_reducible exact H | (rw [hy192]; exact H) | exact H
     have Ny192 := Aside0.mk hy192; clear hy192; replace H := Option.bind_eq_some_iff.mp H; obtain ⟨t195, A70, H⟩ := H
     replace H : ((dag_Check.f k t195).bind fun t198 => (if t198 = 0 then (some (t195, 0)) else (some (([] : List (S43)), 4)))) = some (r1, r2) := H
     have A7 := Aside0.mk A70; clear A70; replace H := Option.bind_eq_some_iff.mp H; obtain ⟨t198, A80, H⟩ := H
     replace H : (if t198 = 0 then (some (t195, 0)) else (some (([] : List (S43)), 4))) = some (r1, r2) := H
     have A8 := Aside0.mk A80; clear A80
     by_cases c9 : t198 = 0
     · rw [if_pos c9] at H
       have c9b0 : (t198 == 0) = true := beq_iff_eq.mpr c9; have c9b1 : (t198 != 0) = false := bne_eq_false_iff_eq.mpr c9; clear c9; simp only [Option.some.injEq, Prod.mk.injEq] at H; obtain ⟨rfl, rfl⟩ := H
       go_enter Tryd.func23, Tryd.ntmps23
       try go_wp2_with (first | ((with_reducible refine gate_dst (N := 3) rfl ?_); refine box_event ?hg (N := 3) ?hd (cs := #[.int .i64 a1_0, .string a1_1, .int .i64 a1_2, .slice A1_3 l1_3.length c1_3]) (t := 43) ?hr ?_; (case hd => rfl); (case hg => rfl); (case hr => exact qD1020); intro gb185 hg w10 hbox hb; have n0_ := Aside0.mk (Kd.V_below (Kd.V_elderB (mVD10 HO0.out) gb185 (Nat.le_of_eq hg.symm)) hb); have n1_ := Aside0.mk (Kd.V_below (Kd.V_elderB (mVD10 HO1_3.out) gb185 (Nat.le_of_eq hg.symm)) hb); have n2_ := Aside0.mk (below_step qD103 hb); have n3_ := Aside0.mk (hbox); have n4_ := Aside0.mk ((by rw [hg]; exact (below_size qD103) : w.heap.size ≤ gb185)); have n5_ := Aside0.mk ((by rw [hg]; exact (below_size qD103) : w.heap.size ≤ gb185)); clear HO0; clear HO1_3; clear HB; have HO0 := n0_; have HO1_3 := n1_; have HB := n2_; have BK185 := n3_; have GW185 := n4_; have GE185 := n5_; clear n0_ n1_ n2_ n3_ n4_ n5_; clear hb hbox hg; have hcz11_0 : w10.cell? ⟨gb185, 0, none⟩ = some (.int .i64 a1_0) := (blk_cell BK185.out 0).trans rfl; have hcz11_1 : w10.cell? ⟨gb185, 1, none⟩ = some (.string a1_1) := (blk_cell BK185.out 1).trans rfl; have hcz11_2 : w10.cell? ⟨gb185, 2, none⟩ = some (.int .i64 a1_2) := (blk_cell BK185.out 2).trans rfl; have hcz11_3 : w10.cell? ⟨gb185, 3, none⟩ = some (.slice A1_3 l1_3.length c1_3) := (blk_cell BK185.out 3).trans rfl; have hfz11_0 := blk_frozen BK185.out 0; have hfz11_1 := blk_frozen BK185.out 1; have hfz11_2 := blk_frozen BK185.out 2; have hfz11_3 := blk_frozen BK185.out 3))
       have n0_ : Aside0 (Kd.V k43 43 (w10.setCell ⟨gb185, 0, none⟩ (.int .i64 (wrap64 ((l0.length : Int) + 1)))) w.heap.size (fun k_ => ((P0_ k_ ∨ P1_3_ k_) ∨ w.heap.size ≤ k_) ∧ k_ ≠ gb185) (.slice A0 l0.length c0) l0) := ⟨by (with_reducible repeat (first | apply Kd.V_alloc | apply Kd.V_drewN | apply Kd.V_drew)); exact Kd.V_mono (Kd.V_far (p := ⟨gb185, 0, none⟩) (Kd.V_mono HO0.out (fun k_ hk => (⟨hk, hk.2⟩ : _ ∧ k_ ≠ gb185))) (fun _ hk => hk.2) (.int .i64 (wrap64 ((l0.length : Int) + 1)))) (fun _ hk => ⟨hk.1.1, hk.1.2⟩)⟩
       have n1_ : Aside0 (Kd.V (Kd.int .i64) 3 (w10.setCell ⟨gb185, 0, none⟩ (.int .i64 (wrap64 ((l0.length : Int) + 1)))) w.heap.size (fun k_ => ((P0_ k_ ∨ P1_3_ k_) ∨ w.heap.size ≤ k_) ∧ k_ ≠ gb185) (.slice A1_3 l1_3.length c1_3) l1_3) := ⟨by (with_reducible repeat (first | apply Kd.V_alloc | apply Kd.V_drewN | apply Kd.V_drew)); exact Kd.V_mono (Kd.V_far (p := ⟨gb185, 0, none⟩) (Kd.V_mono HO1_3.out (fun k_ hk => (⟨hk, hk.2⟩ : _ ∧ k_ ≠ gb185))) (fun _ hk => hk.2) (.int .i64 (wrap64 ((l0.length : Int) + 1)))) (fun _ hk => ⟨hk.1.1, hk.1.2⟩)⟩
       have n2_ : Aside0 ((w10.setCell ⟨gb185, 0, none⟩ (.int .i64 (wrap64 ((l0.length : Int) + 1)))).heap[gb185]? = some (.cells #[.int .i64 (wrap64 ((l0.length : Int) + 1)), .string a1_1, .int .i64 a1_2, .slice A1_3 l1_3.length c1_3] 43 (0, 0))) := ⟨by (with_reducible repeat (first | refine blk_drewN ?_ _ | refine blk_drew ?_ | refine blk_alloc ?_ _)); refine blk_put (cs := #[.int .i64 a1_0, .string a1_1, .int .i64 a1_2, .slice A1_3 l1_3.length c1_3]) ?_ 0 _ qD1022; (with_reducible repeat (first | refine blk_drewN ?_ _ | refine blk_drew ?_ | refine blk_alloc ?_ _)); exact BK185.out⟩; have n3_ : Aside0 (Below w.heap.size w (w10.setCell ⟨gb185, 0, none⟩ (.int .i64 (wrap64 ((l0.length : Int) + 1))))) := ⟨qD100⟩
       (try clear HO0)
       (try clear HO1_3)
       (try clear BK185)
       (try clear HB)
       generalize (w10.setCell ⟨gb185, 0, none⟩ (.int .i64 (wrap64 ((l0.length : Int) + 1)))) = w12 at n0_ n1_ n2_ n3_ ⊢
       have HO0 := n0_; have HO1_3 := n1_; have BK185 := n2_; have HB := n3_; clear n0_ n1_ n2_ n3_; have n0_ := Aside0.mk (Kd.V_drew HO0.out); have n1_ := Aside0.mk (Kd.V_drew HO1_3.out); have n2_ := Aside0.mk (blk_drew BK185.out); have n3_ := Aside0.mk (below_drew1 HB.out); clear HO0; clear HO1_3; clear BK185; clear HB; have HO0 := n0_; have HO1_3 := n1_; have BK185 := n2_; have HB := n3_; clear n0_ n1_ n2_ n3_
       refine start_ (n := 7) (S := fun w' => w'.cell? ⟨gb185, 0, none⟩ = some (.int .i64 (wrap64 ((l0.length : Int) + 1))) ∧ w'.cell? ⟨gb185, 1, none⟩ = some (.string a1_1) ∧ w'.cell? ⟨gb185, 2, none⟩ = some (.int .i64 a1_2) ∧ w'.cell? ⟨gb185, 3, none⟩ = some (.slice A1_3 l1_3.length c1_3)) (ds := []) bD100 (by kernel_rfl) rfl rfl ⟨(blk_cell BK185.out 0).trans rfl, (blk_cell BK185.out 1).trans rfl, (blk_cell BK185.out 2).trans rfl, (blk_cell BK185.out 3).trans rfl⟩ (fun hHeld => ?_)
       generalize w12.drew = w13 at HO0 HO1_3 BK185 HB hHeld ⊢
       refine pure_ (i := 0) (N := some 14) (v := ?_) (a' := ?_) bD101 rfl rfl (by kernel_rfl) (fun _ _ _ h => h) (Or.inl ⟨by rfl, ?_⟩) ?_ ?_
       rotate_left
       · intro w'
         go_simp
         with_reducible rfl
       rotate_left
       · exact qsD100
       refine take_ (i := 2) (N := some 16) (v := ?_) (a' := ?_) bD102 rfl rfl (by kernel_rfl) (fun _ _ _ h => h) (Or.inl ⟨by rfl, ?_⟩) hHeld ?_ ?_
       rotate_left
       · rintro w' ⟨s0, s1, s2, s3⟩
         go_simp
         with_reducible rfl
       rotate_left
       · exact qsD100
       refine join_ (σ := Value × Value) 3 bD103 (fun s_ => [(15, s_.1), (17, s_.2)]) (fun s_ w' => (w'.cell? ⟨gb185, 0, none⟩ = some (.int .i64 (wrap64 ((l0.length : Int) + 1))) ∧ w'.cell? ⟨gb185, 1, none⟩ = some (.string a1_1) ∧ w'.cell? ⟨gb185, 2, none⟩ = some (.int .i64 a1_2) ∧ w'.cell? ⟨gb185, 3, none⟩ = some (.slice A1_3 l1_3.length c1_3)) ∧ (Kd.V k43 43 w' w.heap.size (fun k_ => ((P0_ k_ ∨ P1_3_ k_) ∨ w.heap.size ≤ k_) ∧ some k_ ≠ (s_.1 : Value).ownBlock ∧ some k_ ≠ (s_.2 : Value).ownBlock ∧ k_ ≠ gb185) (.slice A0 l0.length c0) l0) ∧ (Kd.N k43 43 w' w.heap.size (fun k_ => ((P0_ k_ ∨ P1_3_ k_) ∨ w.heap.size ≤ k_) ∧ some k_ ≠ (s_.2 : Value).ownBlock ∧ k_ ≠ gb185) s_.1 t186) ∧ (Kd.N k43 43 w' w.heap.size (fun k_ => ((P0_ k_ ∨ P1_3_ k_) ∨ w.heap.size ≤ k_) ∧ some k_ ≠ (s_.1 : Value).ownBlock ∧ k_ ≠ gb185) s_.2 y189) ∧ (Kd.V (Kd.int .i64) 3 w' w.heap.size (fun k_ => ((P0_ k_ ∨ P1_3_ k_) ∨ w.heap.size ≤ k_) ∧ some k_ ≠ (s_.1 : Value).ownBlock ∧ some k_ ≠ (s_.2 : Value).ownBlock ∧ k_ ≠ gb185) (.slice A1_3 l1_3.length c1_3) l1_3) ∧ (w'.heap[gb185]? = some (.cells #[.int .i64 (wrap64 ((l0.length : Int) + 1)), .string a1_1, .int .i64 a1_2, .slice A1_3 l1_3.length c1_3] 43 (0, 0))) ∧ (Below w.heap.size w w')) ?_ ?_
       rotate_left
       · intro hCont
         refine two_ (i := 1) (j := 3) (Ni := some 15) (Nj := some 17) bD104 bD105 rfl rfl rfl rfl (by kernel_rfl) (by decide) (by decide) (fun K hK => ?_) (fun K hK => ?_)
         · skip
           refine goes_ Tryd.func37 (by kernel_rfl) rfl #[.slice A0 l0.length c0] (by rfl) rfl rfl qD105 ?_
           with_reducible refine (dag_Rev.calls (fun k_ => (((P0_ k_ ∨ P1_3_ k_) ∨ w.heap.size ≤ k_) ∧ k_ ≠ gb185)) _ _ l0 t186 _ ?side1 A5.out ?side2).mono ?_
           (case side1 => exact HO0.out)
           (case side2 => exact qD1024)
           rintro e w14 ⟨v187, rfl, ho0, hb⟩
           refine ⟨_, rfl, ?_⟩
           have n0_ := Aside0.mk (Kd.V_elder' (mVD10 HO0.out) (Kd.N_base ho0) hb); have n1_ := Aside0.mk (Kd.V_elder' (mVD10 HO1_3.out) (Kd.N_base ho0) hb)
           have n2_ := Aside0.mk (Kd.N_lower (Kd.N_mono (ok' := fun k_ => ((P0_ k_ ∨ P1_3_ k_) ∨ w.heap.size ≤ k_) ∧ k_ ≠ gb185) ho0 (fun k_ hk_ => ⟨Or.elim hk_ (fun hs_ => hs_.1) (fun hn_ => (.inr (Nat.le_trans (below_size qD100) hn_))), Or.elim hk_ (fun hs_ => hs_.2) (fun hn_ => (Kd.freshB (g := gb185) (o := .cells #[.int .i64 (wrap64 ((l0.length : Int) + 1)), .string a1_1, .int .i64 a1_2, .slice A1_3 l1_3.length c1_3] 43 (0, 0)) qD101 k_ hn_))⟩)) (below_size qD100))
           have n3_ := Aside0.mk (blk_below (g := gb185) (o := .cells #[.int .i64 (wrap64 ((l0.length : Int) + 1)), .string a1_1, .int .i64 a1_2, .slice A1_3 l1_3.length c1_3] 43 (0, 0)) qD101 hb); have n4_ := Aside0.mk (below_step qD100 hb); clear HO0; clear HO1_3; clear BK185; clear HB; have HO0 := n0_; have HO1_3 := n1_; have HO188 := n2_; have BK185 := n3_; have HB := n4_; clear n0_ n1_ n2_ n3_ n4_
           (try clear hb)
           (try clear hb2)
           (try clear hk)
           (try clear hi)
           (try clear ho0)
           refine hK.out _ _ ⟨(blk_cell BK185.out 0).trans rfl, (blk_cell BK185.out 1).trans rfl, (blk_cell BK185.out 2).trans rfl, (blk_cell BK185.out 3).trans rfl⟩ (fun hHeld => ?_)
           clear hK K
           refine norm_ (a' := ?_) ?_ ?_
           rotate_left
           · show Act.put _ (some 15) _ = _
             simp only [Act.put, List.setIfInBounds_toArray, List.set_cons_zero, List.set_cons_succ, i64_w, i32_w]
             rfl
           refine one_ (i := 3) (N := some 17) bD103 rfl rfl (by kernel_rfl) (by decide) (fun K hK => ?_)
           refine Kd.N_lit_step k43 _ 43 ?hg (N' := 17) ?hd (xs := ([(⟨wrap64 ((l0.length : Int) + 1), a1_1, a1_2, l1_3⟩ : S43)] : List (S43))) (inner := [.int .i64 (wrap64 ((l0.length : Int) + 1)), .string a1_1, .int .i64 a1_2, .slice A1_3 l1_3.length c1_3]) (ok := (fun k_ => ((P0_ k_ ∨ P1_3_ k_) ∨ w.heap.size ≤ k_) ∧ some k_ ≠ (v187 : Value).ownBlock ∧ k_ ≠ gb185)) (okp := (fun k_ => ((P0_ k_ ∨ P1_3_ k_) ∨ w.heap.size ≤ k_) ∧ some k_ ≠ (v187 : Value).ownBlock ∧ k_ ≠ gb185)) ?hr ?hp (fun _ hk => hk) ((show ∀ k_, w14.heap.size ≤ k_ → (fun k_ => ((P0_ k_ ∨ P1_3_ k_) ∨ w.heap.size ≤ k_) ∧ some k_ ≠ (v187 : Value).ownBlock ∧ k_ ≠ gb185) k_ from fun k_ hk => ⟨(.inr (Nat.le_trans (below_size qD100) hk)), Kd.fresh' (Kd.N_lt (mND10 HO188.out)) k_ hk, Kd.freshB (g := gb185) (o := .cells #[.int .i64 (wrap64 ((l0.length : Int) + 1)), .string a1_1, .int .i64 a1_2, .slice A1_3 l1_3.length c1_3] 43 (0, 0)) qD101 k_ hk⟩) _ (Nat.le_refl _)) (Below.refl _ _) (Nat.le_refl _) (by simp) ?_; (case hd => rfl); (case hg => rfl); (case hr => exact qD1020); (case hp => exact qD102)
           intro v190 w15 ho16 hb hg_ hnew_
           clear hg_ hnew_
           (first | rw [← Ny189.out] at ho16 | (simp only [Int.reduceToNat] at ho16; rw [← Ny189.out] at ho16))
           have n0_ := Aside0.mk (Kd.V_elder' (mVD10 HO0.out) (Kd.N_base ho16) hb); have n1_ := Aside0.mk (Kd.V_elder' (mVD10 HO1_3.out) (Kd.N_base ho16) hb); have n2_ := Aside0.mk (Kd.N_elder' (mND10 HO188.out) (Kd.N_base ho16) hb); have n3_ := Aside0.mk (Kd.N_lower ho16 (below_size qD100)); have n4_ := Aside0.mk (blk_below (g := gb185) (o := .cells #[.int .i64 (wrap64 ((l0.length : Int) + 1)), .string a1_1, .int .i64 a1_2, .slice A1_3 l1_3.length c1_3] 43 (0, 0)) qD101 hb); have n5_ := Aside0.mk (below_step qD100 hb); clear HO0; clear HO1_3; clear HO188; clear BK185; clear HB; have HO0 := n0_; have HO1_3 := n1_; have HO188 := n2_; have HO191 := n3_; have BK185 := n4_; have HB := n5_; clear n0_ n1_ n2_ n3_ n4_ n5_; clear hb ho16
           refine hK.out _ _ ⟨(blk_cell BK185.out 0).trans rfl, (blk_cell BK185.out 1).trans rfl, (blk_cell BK185.out 2).trans rfl, (blk_cell BK185.out 3).trans rfl⟩ (fun hHeld => ?_)
           clear hK K
           refine norm_ (a' := ?_) ?_ ?_
           rotate_left
           · show Act.put _ (some 17) _ = _
             simp only [Act.put, List.setIfInBounds_toArray, List.set_cons_zero, List.set_cons_succ, i64_w, i32_w]
             rfl
           exact norm_ qD107 (hCont (v187, v190) _ ⟨hHeld, qD1012, qD1016, (mND10 HO191.out), qD109, qD101, qD100⟩)
         · skip
           refine Kd.N_lit_step k43 _ 43 ?hg (N' := 17) ?hd (xs := ([(⟨wrap64 ((l0.length : Int) + 1), a1_1, a1_2, l1_3⟩ : S43)] : List (S43))) (inner := [.int .i64 (wrap64 ((l0.length : Int) + 1)), .string a1_1, .int .i64 a1_2, .slice A1_3 l1_3.length c1_3]) (ok := (fun k_ => ((P0_ k_ ∨ P1_3_ k_) ∨ w.heap.size ≤ k_) ∧ k_ ≠ gb185)) (okp := (fun k_ => ((P0_ k_ ∨ P1_3_ k_) ∨ w.heap.size ≤ k_) ∧ k_ ≠ gb185)) ?hr ?hp (fun _ hk => hk) ((show ∀ k_, w13.heap.size ≤ k_ → (fun k_ => ((P0_ k_ ∨ P1_3_ k_) ∨ w.heap.size ≤ k_) ∧ k_ ≠ gb185) k_ from fun k_ hk => ⟨(.inr (Nat.le_trans (below_size qD100) hk)), Kd.freshB (g := gb185) (o := .cells #[.int .i64 (wrap64 ((l0.length : Int) + 1)), .string a1_1, .int .i64 a1_2, .slice A1_3 l1_3.length c1_3] 43 (0, 0)) qD101 k_ hk⟩) _ (Nat.le_refl _)) (Below.refl _ _) (Nat.le_refl _) (by simp) ?_; (case hd => rfl); (case hg => rfl); (case hr => exact qD1020); (case hp => exact qD104)
           intro v190 w14 ho15 hb hg_ hnew_
           clear hg_ hnew_
           (first | rw [← Ny189.out] at ho15 | (simp only [Int.reduceToNat] at ho15; rw [← Ny189.out] at ho15))
           have n0_ := Aside0.mk (Kd.V_elder' (mVD10 HO0.out) (Kd.N_base ho15) hb); have n1_ := Aside0.mk (Kd.V_elder' (mVD10 HO1_3.out) (Kd.N_base ho15) hb); have n2_ := Aside0.mk (Kd.N_lower ho15 (below_size qD100)); have n3_ := Aside0.mk (blk_below (g := gb185) (o := .cells #[.int .i64 (wrap64 ((l0.length : Int) + 1)), .string a1_1, .int .i64 a1_2, .slice A1_3 l1_3.length c1_3] 43 (0, 0)) qD101 hb); have n4_ := Aside0.mk (below_step qD100 hb); clear HO0; clear HO1_3; clear BK185; clear HB; have HO0 := n0_; have HO1_3 := n1_; have HO191 := n2_; have BK185 := n3_; have HB := n4_; clear n0_ n1_ n2_ n3_ n4_; clear hb ho15
           refine hK.out _ _ ⟨(blk_cell BK185.out 0).trans rfl, (blk_cell BK185.out 1).trans rfl, (blk_cell BK185.out 2).trans rfl, (blk_cell BK185.out 3).trans rfl⟩ (fun hHeld => ?_)
           clear hK K
           refine norm_ (a' := ?_) ?_ ?_
           rotate_left
           · show Act.put _ (some 17) _ = _
             simp only [Act.put, List.setIfInBounds_toArray, List.set_cons_zero, List.set_cons_succ, i64_w, i32_w]
             rfl
           refine one_ (i := 1) (N := some 15) bD103 rfl rfl (by kernel_rfl) (by decide) (fun K hK => ?_)
           refine goes_ Tryd.func37 (by kernel_rfl) rfl #[.slice A0 l0.length c0] (by rfl) rfl rfl qD105 ?_
           with_reducible refine (dag_Rev.calls (fun k_ => ((((P0_ k_ ∨ P1_3_ k_) ∨ w.heap.size ≤ k_) ∧ k_ ≠ gb185) ∧ some k_ ≠ (v190 : Value).ownBlock)) _ _ l0 t186 _ ?side1 A5.out ?side2).mono ?_
           (case side1 => exact HO0.out)
           (case side2 => exact qD1024)
           rintro e w16 ⟨v187, rfl, ho0, hb⟩
           refine ⟨_, rfl, ?_⟩
           have n0_ := Aside0.mk (Kd.V_elder' (mVD10 HO0.out) (Kd.N_base ho0) hb); have n1_ := Aside0.mk (Kd.V_elder' (mVD10 HO1_3.out) (Kd.N_base ho0) hb); have n2_ := Aside0.mk (Kd.N_elder' (mND10 HO191.out) (Kd.N_base ho0) hb)
           have n3_ := Aside0.mk (Kd.N_lower (Kd.N_mono (ok' := fun k_ => ((P0_ k_ ∨ P1_3_ k_) ∨ w.heap.size ≤ k_) ∧ some k_ ≠ (v190 : Value).ownBlock ∧ k_ ≠ gb185) ho0 (fun k_ hk_ => ⟨Or.elim hk_ (fun hs_ => hs_.1.1) (fun hn_ => (.inr (Nat.le_trans (below_size qD100) hn_))), Or.elim hk_ (fun hs_ => hs_.2) (fun hn_ => (Kd.fresh' (Kd.N_lt (mND10 HO191.out)) k_ hn_)), Or.elim hk_ (fun hs_ => hs_.1.2) (fun hn_ => (Kd.freshB (g := gb185) (o := .cells #[.int .i64 (wrap64 ((l0.length : Int) + 1)), .string a1_1, .int .i64 a1_2, .slice A1_3 l1_3.length c1_3] 43 (0, 0)) qD101 k_ hn_))⟩)) (below_size qD100))
           have n4_ := Aside0.mk (blk_below (g := gb185) (o := .cells #[.int .i64 (wrap64 ((l0.length : Int) + 1)), .string a1_1, .int .i64 a1_2, .slice A1_3 l1_3.length c1_3] 43 (0, 0)) qD101 hb); have n5_ := Aside0.mk (below_step qD100 hb); clear HO0; clear HO1_3; clear HO191; clear BK185; clear HB; have HO0 := n0_; have HO1_3 := n1_; have HO191 := n2_; have HO188 := n3_; have BK185 := n4_; have HB := n5_; clear n0_ n1_ n2_ n3_ n4_ n5_
           (try clear hb)
           (try clear hb2)
           (try clear hk)
           (try clear hi)
           (try clear ho0)
           refine hK.out _ _ ⟨(blk_cell BK185.out 0).trans rfl, (blk_cell BK185.out 1).trans rfl, (blk_cell BK185.out 2).trans rfl, (blk_cell BK185.out 3).trans rfl⟩ (fun hHeld => ?_)
           clear hK K
           refine norm_ (a' := ?_) ?_ ?_
           rotate_left
           · show Act.put _ (some 15) _ = _
             simp only [Act.put, List.setIfInBounds_toArray, List.set_cons_zero, List.set_cons_succ, i64_w, i32_w]
             rfl
           exact norm_ qD107 (hCont (v187, v190) _ ⟨hHeld, qD1013, (mND10 HO188.out), qD1017, qD1010, qD101, qD100⟩)
       rintro ⟨v187, v190⟩ w17 ⟨hS_, h0_, h1_, h2_, h3_, h4_, h5_⟩
       have n0_ : Aside0 (Kd.V k43 43 w17 w.heap.size (fun k_ => ((P0_ k_ ∨ P1_3_ k_) ∨ w.heap.size ≤ k_) ∧ some k_ ≠ (v187 : Value).ownBlock ∧ some k_ ≠ (v190 : Value).ownBlock ∧ k_ ≠ gb185) (.slice A0 l0.length c0) l0) := ⟨h0_⟩
       have n1_ : Aside0 (Kd.N k43 43 w17 w.heap.size (fun k_ => ((P0_ k_ ∨ P1_3_ k_) ∨ w.heap.size ≤ k_) ∧ some k_ ≠ (v190 : Value).ownBlock ∧ k_ ≠ gb185) v187 t186) := ⟨h1_⟩
       have n2_ : Aside0 (Kd.N k43 43 w17 w.heap.size (fun k_ => ((P0_ k_ ∨ P1_3_ k_) ∨ w.heap.size ≤ k_) ∧ some k_ ≠ (v187 : Value).ownBlock ∧ k_ ≠ gb185) v190 y189) := ⟨h2_⟩
       have n3_ : Aside0 (Kd.V (Kd.int .i64) 3 w17 w.heap.size (fun k_ => ((P0_ k_ ∨ P1_3_ k_) ∨ w.heap.size ≤ k_) ∧ some k_ ≠ (v187 : Value).ownBlock ∧ some k_ ≠ (v190 : Value).ownBlock ∧ k_ ≠ gb185) (.slice A1_3 l1_3.length c1_3) l1_3) := ⟨h3_⟩
       have n4_ : Aside0 (w17.heap[gb185]? = some (.cells #[.int .i64 (wrap64 ((l0.length : Int) + 1)), .string a1_1, .int .i64 a1_2, .slice A1_3 l1_3.length c1_3] 43 (0, 0))) := ⟨h4_⟩; have n5_ : Aside0 (Below w.heap.size w w17) := ⟨h5_⟩; clear HO0; clear HO1_3; clear BK185; clear HB; clear h0_ h1_ h2_ h3_ h4_ h5_; have HO0 := n0_; have HO188 := n1_; have HO191 := n2_; have HO1_3 := n3_; have BK185 := n4_; have HB := n5_; clear n0_ n1_ n2_ n3_ n4_ n5_; have hHeld : w17.cell? ⟨gb185, 0, none⟩ = some (.int .i64 (wrap64 ((l0.length : Int) + 1))) ∧ w17.cell? ⟨gb185, 1, none⟩ = some (.string a1_1) ∧ w17.cell? ⟨gb185, 2, none⟩ = some (.int .i64 a1_2) ∧ w17.cell? ⟨gb185, 3, none⟩ = some (.slice A1_3 l1_3.length c1_3) := hS_; obtain ⟨Ao19, co19, eo19⟩ := Kd.N_slice HO191.out
       (first | subst eo19 | (injection eo19 with f1_ f2_ f3_; have f4_ := f1_.symm; have f5_ := f3_.symm; clear f1_ f2_ f3_; subst f4_; subst f5_))
       refine norm_ (a' := ?_) ?_ ?_
       rotate_left
       · simp only [putAll, Act.put, List.setIfInBounds_toArray, List.set_cons_zero, List.set_cons_succ]
         rfl
       refine one_ (i := 4) (N := some 18) bD106 rfl rfl (by kernel_rfl) (by decide) (fun K hK => ?_)
       refine Kd.N_append_rows_step k43 (w0 := w) w.heap.size (by rfl) (.tmp 15) (.tmp 17) 22 43 (.agg #[(.int .i64 0), (.string ⟨#[]⟩), (.int .i64 0), (.slice none 0 0)]) 56 rfl Tryd.underlying22 info43 rfl (by decide) (by omega) v187 t186 y189 _ _ _ (fun k_ => ((P0_ k_ ∨ P1_3_ k_) ∨ w.heap.size ≤ k_) ∧ k_ ≠ gb185) (fun k_ => ((fun k_ => ((P0_ k_ ∨ P1_3_ k_) ∨ w.heap.size ≤ k_) ∧ k_ ≠ gb185)) k_ ∧ some k_ ≠ (v187 : Value).ownBlock) rfl rfl ?aO ?aR (fun _ hk => hk) ?aF ?aB ?aS ?aL ?_
       (case aR => exact qD106)
       (case aB => exact qD100)
       (case aF => exact qD1023)
       (case aO => exact qD1015)
       (case aS => exact (below_size qD100))
       (case aL => have := LMc6.out; omega)
       intro v193 w18 ho hb hg hat
       rw [← Ny192.out] at ho
       have n0_ := Aside0.mk (Kd.V_afterv (ok := (fun k_ => ((P0_ k_ ∨ P1_3_ k_) ∨ w.heap.size ≤ k_) ∧ some k_ ≠ (.slice Ao19 y189.length co19 : Value).ownBlock ∧ k_ ≠ gb185)) qD1014 hg hat)
       have n1_ := Aside0.mk (Kd.V_afterv (ok := (fun k_ => ((P0_ k_ ∨ P1_3_ k_) ∨ w.heap.size ≤ k_) ∧ some k_ ≠ (.slice Ao19 y189.length co19 : Value).ownBlock ∧ k_ ≠ gb185)) qD1011 hg hat)
       have n2_ := Aside0.mk (blk_grown (g := gb185) (o := .cells #[.int .i64 (wrap64 ((l0.length : Int) + 1)), .string a1_1, .int .i64 a1_2, .slice A1_3 l1_3.length c1_3] 43 (0, 0)) qD101 hg (Kd.N_away HO188.out (fun _ hk => hk.2.2)))
       have n3_ := Aside0.mk (Kd.N_afterv (ok := (fun k_ => ((P0_ k_ ∨ P1_3_ k_) ∨ w.heap.size ≤ k_) ∧ k_ ≠ gb185)) qD1018 hg hat)
       have n4_ := Aside0.mk (hb); have n5_ := Aside0.mk (ho); clear HO0; clear HO1_3; clear BK185; clear HO191; clear HB; clear HO188; have HO0 := n0_; have HO1_3 := n1_; have BK185 := n2_; have HO191 := n3_; have HB := n4_; have HO194 := n5_; clear n0_ n1_ n2_ n3_ n4_ n5_; clear ho hb hg hat; obtain ⟨Ao20, co20, eo20⟩ := Kd.N_slice HO194.out
       (first | subst eo20 | (injection eo20 with f1_ f2_ f3_; have f4_ := f1_.symm; have f5_ := f3_.symm; clear f1_ f2_ f3_; subst f4_; subst f5_))
       refine hK.out _ _ ⟨(blk_cell BK185.out 0).trans rfl, (blk_cell BK185.out 1).trans rfl, (blk_cell BK185.out 2).trans rfl, (blk_cell BK185.out 3).trans rfl⟩ (fun hHeld => ?_)
       clear hK K
       refine norm_ (a' := ?_) ?_ ?_
       rotate_left
       · show Act.put _ (some 18) _ = _
         simp only [Act.put, List.setIfInBounds_toArray, List.set_cons_zero, List.set_cons_succ, i64_w, i32_w]
         rfl
       refine one_ (i := 5) (N := some 19) bD107 rfl rfl (by kernel_rfl) (by decide) (fun K hK => ?_)
       refine goes_ Tryd.func36 (by kernel_rfl) rfl #[.slice Ao20 y192.length co20] (by rfl) rfl rfl qD105 ?_
       with_reducible refine (dag_copied.calls k (fun k_ => (((P0_ k_ ∨ P1_3_ k_) ∨ w.heap.size ≤ k_) ∧ k_ ≠ gb185)) _ _ y192 t195 _ ?side1 A7.out ?side2).mono ?_
       (case side1 => exact Kd.N_V (HO194.out))
       (case side2 => exact qD1024)
       rintro e w21 ⟨v196, rfl, ho0, hb⟩
       refine ⟨_, rfl, ?_⟩
       have n0_ := Aside0.mk (Kd.V_elder' (mVD10 HO0.out) (Kd.N_base ho0) hb); have n1_ := Aside0.mk (Kd.V_elder' (mVD10 HO1_3.out) (Kd.N_base ho0) hb); have n2_ := Aside0.mk (Kd.N_elder' (mND10 HO191.out) (Kd.N_base ho0) hb); have n3_ := Aside0.mk (Kd.N_elder' (mND10 HO194.out) (Kd.N_base ho0) hb)
       have n4_ := Aside0.mk (Kd.N_lower (Kd.N_mono (ok' := fun k_ => ((P0_ k_ ∨ P1_3_ k_) ∨ w.heap.size ≤ k_) ∧ k_ ≠ gb185) ho0 (fun k_ hk_ => ⟨Or.elim hk_ (fun hs_ => hs_.1) (fun hn_ => (.inr (Nat.le_trans (below_size qD100) hn_))), Or.elim hk_ (fun hs_ => hs_.2) (fun hn_ => (Kd.freshB (g := gb185) (o := .cells #[.int .i64 (wrap64 ((l0.length : Int) + 1)), .string a1_1, .int .i64 a1_2, .slice A1_3 l1_3.length c1_3] 43 (0, 0)) qD101 k_ hn_))⟩)) (below_size qD100))
       have n5_ := Aside0.mk (blk_below (g := gb185) (o := .cells #[.int .i64 (wrap64 ((l0.length : Int) + 1)), .string a1_1, .int .i64 a1_2, .slice A1_3 l1_3.length c1_3] 43 (0, 0)) qD101 hb); have n6_ := Aside0.mk (below_step qD100 hb); clear HO0; clear HO1_3; clear HO191; clear HO194; clear BK185; clear HB; have HO0 := n0_; have HO1_3 := n1_; have HO191 := n2_; have HO194 := n3_; have HO197 := n4_; have BK185 := n5_; have HB := n6_; clear n0_ n1_ n2_ n3_ n4_ n5_ n6_
       (try clear hb)
       (try clear hb2)
       (try clear hk)
       (try clear hi)
       (try clear ho0)
       refine hK.out _ _ ⟨(blk_cell BK185.out 0).trans rfl, (blk_cell BK185.out 1).trans rfl, (blk_cell BK185.out 2).trans rfl, (blk_cell BK185.out 3).trans rfl⟩ (fun hHeld => ?_)
       clear hK K
       refine norm_ (a' := ?_) ?_ ?_
       rotate_left
       · show Act.put _ (some 19) _ = _
         simp only [Act.put, List.setIfInBounds_toArray, List.set_cons_zero, List.set_cons_succ, i64_w, i32_w]
         rfl
       refine pure_ (i := 6) (N := some 6) (v := ?_) (a' := ?_) bD108 rfl rfl (by kernel_rfl) (fun _ _ _ h => h) (Or.inl ⟨by rfl, ?_⟩) ?_ ?_
       rotate_left
       · intro w'
         go_simp
         with_reducible rfl
       rotate_left
       · exact qsD100
       refine done_ (by kernel_rfl) ?_
       obtain ⟨Ao22, co22, eo22⟩ := Kd.N_slice HO197.out; subst eo22
       try go_wp2_with (first | ((with_reducible refine gate_callee (f := 21) rfl ?_); refine goesL_ (some 21) rfl rfl Tryd.func21 (by kernel_rfl) rfl #[.slice Ao22 t195.length co22] rfl qD105 ?_; (with_reducible refine (dag_Check.calls k _ _ t195 t198 _ ?side1 ?side2 A8.out ?side3).mono ?_); (case side1 => exact qD108); (case side2 => exact (Kd.N_reads' HO197.out).2.1); (case side3 => exact qD1024); rintro e w23 ⟨rfl, hb⟩; refine ⟨_, rfl, ?_⟩; have n0_ := Aside0.mk (Kd.V_below (mVD10 HO0.out) hb); have n1_ := Aside0.mk (Kd.V_below (mVD10 HO1_3.out) hb); have n2_ := Aside0.mk (Kd.N_below (mND10 HO191.out) hb); have n3_ := Aside0.mk (Kd.N_below (mND10 HO194.out) hb); have n4_ := Aside0.mk (Kd.N_below (mND10 HO197.out) hb); have n5_ := Aside0.mk (blk_below (g := gb185) (o := .cells #[.int .i64 (wrap64 ((l0.length : Int) + 1)), .string a1_1, .int .i64 a1_2, .slice A1_3 l1_3.length c1_3] 43 (0, 0)) qD101 hb); have n6_ := Aside0.mk (below_step qD100 hb); clear HO0; clear HO1_3; clear HO191; clear HO194; clear HO197; clear BK185; clear HB; have HO0 := n0_; have HO1_3 := n1_; have HO191 := n2_; have HO194 := n3_; have HO197 := n4_; have BK185 := n5_; have HB := n6_; clear n0_ n1_ n2_ n3_ n4_ n5_ n6_; (try clear hb); (try clear hb2); (try clear hk); (try clear hi)))
       go_ret2
       exact ⟨_, qD1019, by (with_reducible repeat (first | apply Kd.N_alloc | apply Kd.N_drewN | apply Kd.N_drew)); exact Kd.N_mono HO197.out (fun _ hk => hk.1), qD100⟩
     · rw [if_neg c9] at H
       have c9b0 : (t198 == 0) = false := beq_eq_false_iff_ne.mpr c9; have c9b1 : (t198 != 0) = true := bne_iff_ne.mpr c9; simp only [Option.some.injEq, Prod.mk.injEq] at H; obtain ⟨rfl, rfl⟩ := H
       go_enter Tryd.func23, Tryd.ntmps23
       try go_wp2_with (first | ((with_reducible refine gate_dst (N := 3) rfl ?_); refine box_event ?hg (N := 3) ?hd (cs := #[.int .i64 a1_0, .string a1_1, .int .i64 a1_2, .slice A1_3 l1_3.length c1_3]) (t := 43) ?hr ?_; (case hd => rfl); (case hg => rfl); (case hr => exact qD1020); intro gb185 hg w24 hbox hb; have n0_ := Aside0.mk (Kd.V_below (Kd.V_elderB (mVD10 HO0.out) gb185 (Nat.le_of_eq hg.symm)) hb); have n1_ := Aside0.mk (Kd.V_below (Kd.V_elderB (mVD10 HO1_3.out) gb185 (Nat.le_of_eq hg.symm)) hb); have n2_ := Aside0.mk (below_step qD103 hb); have n3_ := Aside0.mk (hbox); have n4_ := Aside0.mk ((by rw [hg]; exact (below_size qD103) : w.heap.size ≤ gb185)); have n5_ := Aside0.mk ((by rw [hg]; exact (below_size qD103) : w.heap.size ≤ gb185)); clear HO0; clear HO1_3; clear HB; have HO0 := n0_; have HO1_3 := n1_; have HB := n2_; have BK185 := n3_; have GW185 := n4_; have GE185 := n5_; clear n0_ n1_ n2_ n3_ n4_ n5_; clear hb hbox hg; have hcz25_0 : w24.cell? ⟨gb185, 0, none⟩ = some (.int .i64 a1_0) := (blk_cell BK185.out 0).trans rfl; have hcz25_1 : w24.cell? ⟨gb185, 1, none⟩ = some (.string a1_1) := (blk_cell BK185.out 1).trans rfl; have hcz25_2 : w24.cell? ⟨gb185, 2, none⟩ = some (.int .i64 a1_2) := (blk_cell BK185.out 2).trans rfl; have hcz25_3 : w24.cell? ⟨gb185, 3, none⟩ = some (.slice A1_3 l1_3.length c1_3) := (blk_cell BK185.out 3).trans rfl; have hfz25_0 := blk_frozen BK185.out 0; have hfz25_1 := blk_frozen BK185.out 1; have hfz25_2 := blk_frozen BK185.out 2; have hfz25_3 := blk_frozen BK185.out 3))
       have n0_ : Aside0 (Kd.V k43 43 (w24.setCell ⟨gb185, 0, none⟩ (.int .i64 (wrap64 ((l0.length : Int) + 1)))) w.heap.size (fun k_ => ((P0_ k_ ∨ P1_3_ k_) ∨ w.heap.size ≤ k_) ∧ k_ ≠ gb185) (.slice A0 l0.length c0) l0) := ⟨by (with_reducible repeat (first | apply Kd.V_alloc | apply Kd.V_drewN | apply Kd.V_drew)); exact Kd.V_mono (Kd.V_far (p := ⟨gb185, 0, none⟩) (Kd.V_mono HO0.out (fun k_ hk => (⟨hk, hk.2⟩ : _ ∧ k_ ≠ gb185))) (fun _ hk => hk.2) (.int .i64 (wrap64 ((l0.length : Int) + 1)))) (fun _ hk => ⟨hk.1.1, hk.1.2⟩)⟩
       have n1_ : Aside0 (Kd.V (Kd.int .i64) 3 (w24.setCell ⟨gb185, 0, none⟩ (.int .i64 (wrap64 ((l0.length : Int) + 1)))) w.heap.size (fun k_ => ((P0_ k_ ∨ P1_3_ k_) ∨ w.heap.size ≤ k_) ∧ k_ ≠ gb185) (.slice A1_3 l1_3.length c1_3) l1_3) := ⟨by (with_reducible repeat (first | apply Kd.V_alloc | apply Kd.V_drewN | apply Kd.V_drew)); exact Kd.V_mono (Kd.V_far (p := ⟨gb185, 0, none⟩) (Kd.V_mono HO1_3.out (fun k_ hk => (⟨hk, hk.2⟩ : _ ∧ k_ ≠ gb185))) (fun _ hk => hk.2) (.int .i64 (wrap64 ((l0.length : Int) + 1)))) (fun _ hk => ⟨hk.1.1, hk.1.2⟩)⟩
       have n2_ : Aside0 ((w24.setCell ⟨gb185, 0, none⟩ (.int .i64 (wrap64 ((l0.length : Int) + 1)))).heap[gb185]? = some (.cells #[.int .i64 (wrap64 ((l0.length : Int) + 1)), .string a1_1, .int .i64 a1_2, .slice A1_3 l1_3.length c1_3] 43 (0, 0))) := ⟨by (with_reducible repeat (first | refine blk_drewN ?_ _ | refine blk_drew ?_ | refine blk_alloc ?_ _)); refine blk_put (cs := #[.int .i64 a1_0, .string a1_1, .int .i64 a1_2, .slice A1_3 l1_3.length c1_3]) ?_ 0 _ qD1022; (with_reducible repeat (first | refine blk_drewN ?_ _ | refine blk_drew ?_ | refine blk_alloc ?_ _)); exact BK185.out⟩; have n3_ : Aside0 (Below w.heap.size w (w24.setCell ⟨gb185, 0, none⟩ (.int .i64 (wrap64 ((l0.length : Int) + 1))))) := ⟨qD100⟩
       (try clear HO0)
       (try clear HO1_3)
       (try clear BK185)
       (try clear HB)
       generalize (w24.setCell ⟨gb185, 0, none⟩ (.int .i64 (wrap64 ((l0.length : Int) + 1)))) = w26 at n0_ n1_ n2_ n3_ ⊢
       have HO0 := n0_; have HO1_3 := n1_; have BK185 := n2_; have HB := n3_; clear n0_ n1_ n2_ n3_; have n0_ := Aside0.mk (Kd.V_drew HO0.out); have n1_ := Aside0.mk (Kd.V_drew HO1_3.out); have n2_ := Aside0.mk (blk_drew BK185.out); have n3_ := Aside0.mk (below_drew1 HB.out); clear HO0; clear HO1_3; clear BK185; clear HB; have HO0 := n0_; have HO1_3 := n1_; have BK185 := n2_; have HB := n3_; clear n0_ n1_ n2_ n3_
       refine start_ (n := 7) (S := fun w' => w'.cell? ⟨gb185, 0, none⟩ = some (.int .i64 (wrap64 ((l0.length : Int) + 1))) ∧ w'.cell? ⟨gb185, 1, none⟩ = some (.string a1_1) ∧ w'.cell? ⟨gb185, 2, none⟩ = some (.int .i64 a1_2) ∧ w'.cell? ⟨gb185, 3, none⟩ = some (.slice A1_3 l1_3.length c1_3)) (ds := []) bD100 (by kernel_rfl) rfl rfl ⟨(blk_cell BK185.out 0).trans rfl, (blk_cell BK185.out 1).trans rfl, (blk_cell BK185.out 2).trans rfl, (blk_cell BK185.out 3).trans rfl⟩ (fun hHeld => ?_)
       generalize w26.drew = w27 at HO0 HO1_3 BK185 HB hHeld ⊢
       refine pure_ (i := 0) (N := some 14) (v := ?_) (a' := ?_) bD101 rfl rfl (by kernel_rfl) (fun _ _ _ h => h) (Or.inl ⟨by rfl, ?_⟩) ?_ ?_
       rotate_left
       · intro w'
         go_simp
         with_reducible rfl
       rotate_left
       · exact qsD100
       refine take_ (i := 2) (N := some 16) (v := ?_) (a' := ?_) bD102 rfl rfl (by kernel_rfl) (fun _ _ _ h => h) (Or.inl ⟨by rfl, ?_⟩) hHeld ?_ ?_
       rotate_left
       · rintro w' ⟨s0, s1, s2, s3⟩
         go_simp
         with_reducible rfl
       rotate_left
       · exact qsD100
       refine join_ (σ := Value × Value) 3 bD103 (fun s_ => [(15, s_.1), (17, s_.2)]) (fun s_ w' => (w'.cell? ⟨gb185, 0, none⟩ = some (.int .i64 (wrap64 ((l0.length : Int) + 1))) ∧ w'.cell? ⟨gb185, 1, none⟩ = some (.string a1_1) ∧ w'.cell? ⟨gb185, 2, none⟩ = some (.int .i64 a1_2) ∧ w'.cell? ⟨gb185, 3, none⟩ = some (.slice A1_3 l1_3.length c1_3)) ∧ (Kd.V k43 43 w' w.heap.size (fun k_ => ((P0_ k_ ∨ P1_3_ k_) ∨ w.heap.size ≤ k_) ∧ some k_ ≠ (s_.1 : Value).ownBlock ∧ some k_ ≠ (s_.2 : Value).ownBlock ∧ k_ ≠ gb185) (.slice A0 l0.length c0) l0) ∧ (Kd.N k43 43 w' w.heap.size (fun k_ => ((P0_ k_ ∨ P1_3_ k_) ∨ w.heap.size ≤ k_) ∧ some k_ ≠ (s_.2 : Value).ownBlock ∧ k_ ≠ gb185) s_.1 t186) ∧ (Kd.N k43 43 w' w.heap.size (fun k_ => ((P0_ k_ ∨ P1_3_ k_) ∨ w.heap.size ≤ k_) ∧ some k_ ≠ (s_.1 : Value).ownBlock ∧ k_ ≠ gb185) s_.2 y189) ∧ (Kd.V (Kd.int .i64) 3 w' w.heap.size (fun k_ => ((P0_ k_ ∨ P1_3_ k_) ∨ w.heap.size ≤ k_) ∧ some k_ ≠ (s_.1 : Value).ownBlock ∧ some k_ ≠ (s_.2 : Value).ownBlock ∧ k_ ≠ gb185) (.slice A1_3 l1_3.length c1_3) l1_3) ∧ (w'.heap[gb185]? = some (.cells #[.int .i64 (wrap64 ((l0.length : Int) + 1)), .string a1_1, .int .i64 a1_2, .slice A1_3 l1_3.length c1_3] 43 (0, 0))) ∧ (Below w.heap.size w w')) ?_ ?_
       rotate_left
       · intro hCont
         refine two_ (i := 1) (j := 3) (Ni := some 15) (Nj := some 17) bD104 bD105 rfl rfl rfl rfl (by kernel_rfl) (by decide) (by decide) (fun K hK => ?_) (fun K hK => ?_)
         · skip
           refine goes_ Tryd.func37 (by kernel_rfl) rfl #[.slice A0 l0.length c0] (by rfl) rfl rfl qD105 ?_
           with_reducible refine (dag_Rev.calls (fun k_ => (((P0_ k_ ∨ P1_3_ k_) ∨ w.heap.size ≤ k_) ∧ k_ ≠ gb185)) _ _ l0 t186 _ ?side1 A5.out ?side2).mono ?_
           (case side1 => exact HO0.out)
           (case side2 => exact qD1024)
           rintro e w28 ⟨v187, rfl, ho0, hb⟩
           refine ⟨_, rfl, ?_⟩
           have n0_ := Aside0.mk (Kd.V_elder' (mVD10 HO0.out) (Kd.N_base ho0) hb); have n1_ := Aside0.mk (Kd.V_elder' (mVD10 HO1_3.out) (Kd.N_base ho0) hb)
           have n2_ := Aside0.mk (Kd.N_lower (Kd.N_mono (ok' := fun k_ => ((P0_ k_ ∨ P1_3_ k_) ∨ w.heap.size ≤ k_) ∧ k_ ≠ gb185) ho0 (fun k_ hk_ => ⟨Or.elim hk_ (fun hs_ => hs_.1) (fun hn_ => (.inr (Nat.le_trans (below_size qD100) hn_))), Or.elim hk_ (fun hs_ => hs_.2) (fun hn_ => (Kd.freshB (g := gb185) (o := .cells #[.int .i64 (wrap64 ((l0.length : Int) + 1)), .string a1_1, .int .i64 a1_2, .slice A1_3 l1_3.length c1_3] 43 (0, 0)) qD101 k_ hn_))⟩)) (below_size qD100))
           have n3_ := Aside0.mk (blk_below (g := gb185) (o := .cells #[.int .i64 (wrap64 ((l0.length : Int) + 1)), .string a1_1, .int .i64 a1_2, .slice A1_3 l1_3.length c1_3] 43 (0, 0)) qD101 hb); have n4_ := Aside0.mk (below_step qD100 hb); clear HO0; clear HO1_3; clear BK185; clear HB; have HO0 := n0_; have HO1_3 := n1_; have HO188 := n2_; have BK185 := n3_; have HB := n4_; clear n0_ n1_ n2_ n3_ n4_
           (try clear hb)
           (try clear hb2)
           (try clear hk)
           (try clear hi)
           (try clear ho0)
           refine hK.out _ _ ⟨(blk_cell BK185.out 0).trans rfl, (blk_cell BK185.out 1).trans rfl, (blk_cell BK185.out 2).trans rfl, (blk_cell BK185.out 3).trans rfl⟩ (fun hHeld => ?_)
           clear hK K
           refine norm_ (a' := ?_) ?_ ?_
           rotate_left
           · show Act.put _ (some 15) _ = _
             simp only [Act.put, List.setIfInBounds_toArray, List.set_cons_zero, List.set_cons_succ, i64_w, i32_w]
             rfl
           refine one_ (i := 3) (N := some 17) bD103 rfl rfl (by kernel_rfl) (by decide) (fun K hK => ?_)
           refine Kd.N_lit_step k43 _ 43 ?hg (N' := 17) ?hd (xs := ([(⟨wrap64 ((l0.length : Int) + 1), a1_1, a1_2, l1_3⟩ : S43)] : List (S43))) (inner := [.int .i64 (wrap64 ((l0.length : Int) + 1)), .string a1_1, .int .i64 a1_2, .slice A1_3 l1_3.length c1_3]) (ok := (fun k_ => ((P0_ k_ ∨ P1_3_ k_) ∨ w.heap.size ≤ k_) ∧ some k_ ≠ (v187 : Value).ownBlock ∧ k_ ≠ gb185)) (okp := (fun k_ => ((P0_ k_ ∨ P1_3_ k_) ∨ w.heap.size ≤ k_) ∧ some k_ ≠ (v187 : Value).ownBlock ∧ k_ ≠ gb185)) ?hr ?hp (fun _ hk => hk) ((show ∀ k_, w28.heap.size ≤ k_ → (fun k_ => ((P0_ k_ ∨ P1_3_ k_) ∨ w.heap.size ≤ k_) ∧ some k_ ≠ (v187 : Value).ownBlock ∧ k_ ≠ gb185) k_ from fun k_ hk => ⟨(.inr (Nat.le_trans (below_size qD100) hk)), Kd.fresh' (Kd.N_lt (mND10 HO188.out)) k_ hk, Kd.freshB (g := gb185) (o := .cells #[.int .i64 (wrap64 ((l0.length : Int) + 1)), .string a1_1, .int .i64 a1_2, .slice A1_3 l1_3.length c1_3] 43 (0, 0)) qD101 k_ hk⟩) _ (Nat.le_refl _)) (Below.refl _ _) (Nat.le_refl _) (by simp) ?_; (case hd => rfl); (case hg => rfl); (case hr => exact qD1020); (case hp => exact qD102)
           intro v190 w29 ho30 hb hg_ hnew_
           clear hg_ hnew_
           (first | rw [← Ny189.out] at ho30 | (simp only [Int.reduceToNat] at ho30; rw [← Ny189.out] at ho30))
           have n0_ := Aside0.mk (Kd.V_elder' (mVD10 HO0.out) (Kd.N_base ho30) hb); have n1_ := Aside0.mk (Kd.V_elder' (mVD10 HO1_3.out) (Kd.N_base ho30) hb); have n2_ := Aside0.mk (Kd.N_elder' (mND10 HO188.out) (Kd.N_base ho30) hb); have n3_ := Aside0.mk (Kd.N_lower ho30 (below_size qD100)); have n4_ := Aside0.mk (blk_below (g := gb185) (o := .cells #[.int .i64 (wrap64 ((l0.length : Int) + 1)), .string a1_1, .int .i64 a1_2, .slice A1_3 l1_3.length c1_3] 43 (0, 0)) qD101 hb); have n5_ := Aside0.mk (below_step qD100 hb); clear HO0; clear HO1_3; clear HO188; clear BK185; clear HB; have HO0 := n0_; have HO1_3 := n1_; have HO188 := n2_; have HO191 := n3_; have BK185 := n4_; have HB := n5_; clear n0_ n1_ n2_ n3_ n4_ n5_; clear hb ho30
           refine hK.out _ _ ⟨(blk_cell BK185.out 0).trans rfl, (blk_cell BK185.out 1).trans rfl, (blk_cell BK185.out 2).trans rfl, (blk_cell BK185.out 3).trans rfl⟩ (fun hHeld => ?_)
           clear hK K
           refine norm_ (a' := ?_) ?_ ?_
           rotate_left
           · show Act.put _ (some 17) _ = _
             simp only [Act.put, List.setIfInBounds_toArray, List.set_cons_zero, List.set_cons_succ, i64_w, i32_w]
             rfl
           exact norm_ qD107 (hCont (v187, v190) _ ⟨hHeld, qD1012, qD1016, (mND10 HO191.out), qD109, qD101, qD100⟩)
         · skip
           refine Kd.N_lit_step k43 _ 43 ?hg (N' := 17) ?hd (xs := ([(⟨wrap64 ((l0.length : Int) + 1), a1_1, a1_2, l1_3⟩ : S43)] : List (S43))) (inner := [.int .i64 (wrap64 ((l0.length : Int) + 1)), .string a1_1, .int .i64 a1_2, .slice A1_3 l1_3.length c1_3]) (ok := (fun k_ => ((P0_ k_ ∨ P1_3_ k_) ∨ w.heap.size ≤ k_) ∧ k_ ≠ gb185)) (okp := (fun k_ => ((P0_ k_ ∨ P1_3_ k_) ∨ w.heap.size ≤ k_) ∧ k_ ≠ gb185)) ?hr ?hp (fun _ hk => hk) ((show ∀ k_, w27.heap.size ≤ k_ → (fun k_ => ((P0_ k_ ∨ P1_3_ k_) ∨ w.heap.size ≤ k_) ∧ k_ ≠ gb185) k_ from fun k_ hk => ⟨(.inr (Nat.le_trans (below_size qD100) hk)), Kd.freshB (g := gb185) (o := .cells #[.int .i64 (wrap64 ((l0.length : Int) + 1)), .string a1_1, .int .i64 a1_2, .slice A1_3 l1_3.length c1_3] 43 (0, 0)) qD101 k_ hk⟩) _ (Nat.le_refl _)) (Below.refl _ _) (Nat.le_refl _) (by simp) ?_; (case hd => rfl); (case hg => rfl); (case hr => exact qD1020); (case hp => exact qD104)
           intro v190 w28 ho29 hb hg_ hnew_
           clear hg_ hnew_
           (first | rw [← Ny189.out] at ho29 | (simp only [Int.reduceToNat] at ho29; rw [← Ny189.out] at ho29))
           have n0_ := Aside0.mk (Kd.V_elder' (mVD10 HO0.out) (Kd.N_base ho29) hb); have n1_ := Aside0.mk (Kd.V_elder' (mVD10 HO1_3.out) (Kd.N_base ho29) hb); have n2_ := Aside0.mk (Kd.N_lower ho29 (below_size qD100)); have n3_ := Aside0.mk (blk_below (g := gb185) (o := .cells #[.int .i64 (wrap64 ((l0.length : Int) + 1)), .string a1_1, .int .i64 a1_2, .slice A1_3 l1_3.length c1_3] 43 (0, 0)) qD101 hb); have n4_ := Aside0.mk (below_step qD100 hb); clear HO0; clear HO1_3; clear BK185; clear HB; have HO0 := n0_; have HO1_3 := n1_; have HO191 := n2_; have BK185 := n3_; have HB := n4_; clear n0_ n1_ n2_ n3_ n4_; clear hb ho29
           refine hK.out _ _ ⟨(blk_cell BK185.out 0).trans rfl, (blk_cell BK185.out 1).trans rfl, (blk_cell BK185.out 2).trans rfl, (blk_cell BK185.out 3).trans rfl⟩ (fun hHeld => ?_)
           clear hK K
           refine norm_ (a' := ?_) ?_ ?_
           rotate_left
           · show Act.put _ (some 17) _ = _
             simp only [Act.put, List.setIfInBounds_toArray, List.set_cons_zero, List.set_cons_succ, i64_w, i32_w]
             rfl
           refine one_ (i := 1) (N := some 15) bD103 rfl rfl (by kernel_rfl) (by decide) (fun K hK => ?_)
           refine goes_ Tryd.func37 (by kernel_rfl) rfl #[.slice A0 l0.length c0] (by rfl) rfl rfl qD105 ?_
           with_reducible refine (dag_Rev.calls (fun k_ => ((((P0_ k_ ∨ P1_3_ k_) ∨ w.heap.size ≤ k_) ∧ k_ ≠ gb185) ∧ some k_ ≠ (v190 : Value).ownBlock)) _ _ l0 t186 _ ?side1 A5.out ?side2).mono ?_
           (case side1 => exact HO0.out)
           (case side2 => exact qD1024)
           rintro e w30 ⟨v187, rfl, ho0, hb⟩
           refine ⟨_, rfl, ?_⟩
           have n0_ := Aside0.mk (Kd.V_elder' (mVD10 HO0.out) (Kd.N_base ho0) hb); have n1_ := Aside0.mk (Kd.V_elder' (mVD10 HO1_3.out) (Kd.N_base ho0) hb); have n2_ := Aside0.mk (Kd.N_elder' (mND10 HO191.out) (Kd.N_base ho0) hb)
           have n3_ := Aside0.mk (Kd.N_lower (Kd.N_mono (ok' := fun k_ => ((P0_ k_ ∨ P1_3_ k_) ∨ w.heap.size ≤ k_) ∧ some k_ ≠ (v190 : Value).ownBlock ∧ k_ ≠ gb185) ho0 (fun k_ hk_ => ⟨Or.elim hk_ (fun hs_ => hs_.1.1) (fun hn_ => (.inr (Nat.le_trans (below_size qD100) hn_))), Or.elim hk_ (fun hs_ => hs_.2) (fun hn_ => (Kd.fresh' (Kd.N_lt (mND10 HO191.out)) k_ hn_)), Or.elim hk_ (fun hs_ => hs_.1.2) (fun hn_ => (Kd.freshB (g := gb185) (o := .cells #[.int .i64 (wrap64 ((l0.length : Int) + 1)), .string a1_1, .int .i64 a1_2, .slice A1_3 l1_3.length c1_3] 43 (0, 0)) qD101 k_ hn_))⟩)) (below_size qD100))
           have n4_ := Aside0.mk (blk_below (g := gb185) (o := .cells #[.int .i64 (wrap64 ((l0.length : Int) + 1)), .string a1_1, .int .i64 a1_2, .slice A1_3 l1_3.length c1_3] 43 (0, 0)) qD101 hb); have n5_ := Aside0.mk (below_step qD100 hb); clear HO0; clear HO1_3; clear HO191; clear BK185; clear HB; have HO0 := n0_; have HO1_3 := n1_; have HO191 := n2_; have HO188 := n3_; have BK185 := n4_; have HB := n5_; clear n0_ n1_ n2_ n3_ n4_ n5_
           (try clear hb)
           (try clear hb2)
           (try clear hk)
           (try clear hi)
           (try clear ho0)
           refine hK.out _ _ ⟨(blk_cell BK185.out 0).trans rfl, (blk_cell BK185.out 1).trans rfl, (blk_cell BK185.out 2).trans rfl, (blk_cell BK185.out 3).trans rfl⟩ (fun hHeld => ?_)
           clear hK K
           refine norm_ (a' := ?_) ?_ ?_
           rotate_left
           · show Act.put _ (some 15) _ = _
             simp only [Act.put, List.setIfInBounds_toArray, List.set_cons_zero, List.set_cons_succ, i64_w, i32_w]
             rfl
           exact norm_ qD107 (hCont (v187, v190) _ ⟨hHeld, qD1013, (mND10 HO188.out), qD1017, qD1010, qD101, qD100⟩)
       rintro ⟨v187, v190⟩ w31 ⟨hS_, h0_, h1_, h2_, h3_, h4_, h5_⟩
       have n0_ : Aside0 (Kd.V k43 43 w31 w.heap.size (fun k_ => ((P0_ k_ ∨ P1_3_ k_) ∨ w.heap.size ≤ k_) ∧ some k_ ≠ (v187 : Value).ownBlock ∧ some k_ ≠ (v190 : Value).ownBlock ∧ k_ ≠ gb185) (.slice A0 l0.length c0) l0) := ⟨h0_⟩
       have n1_ : Aside0 (Kd.N k43 43 w31 w.heap.size (fun k_ => ((P0_ k_ ∨ P1_3_ k_) ∨ w.heap.size ≤ k_) ∧ some k_ ≠ (v190 : Value).ownBlock ∧ k_ ≠ gb185) v187 t186) := ⟨h1_⟩
       have n2_ : Aside0 (Kd.N k43 43 w31 w.heap.size (fun k_ => ((P0_ k_ ∨ P1_3_ k_) ∨ w.heap.size ≤ k_) ∧ some k_ ≠ (v187 : Value).ownBlock ∧ k_ ≠ gb185) v190 y189) := ⟨h2_⟩
       have n3_ : Aside0 (Kd.V (Kd.int .i64) 3 w31 w.heap.size (fun k_ => ((P0_ k_ ∨ P1_3_ k_) ∨ w.heap.size ≤ k_) ∧ some k_ ≠ (v187 : Value).ownBlock ∧ some k_ ≠ (v190 : Value).ownBlock ∧ k_ ≠ gb185) (.slice A1_3 l1_3.length c1_3) l1_3) := ⟨h3_⟩
       have n4_ : Aside0 (w31.heap[gb185]? = some (.cells #[.int .i64 (wrap64 ((l0.length : Int) + 1)), .string a1_1, .int .i64 a1_2, .slice A1_3 l1_3.length c1_3] 43 (0, 0))) := ⟨h4_⟩; have n5_ : Aside0 (Below w.heap.size w w31) := ⟨h5_⟩; clear HO0; clear HO1_3; clear BK185; clear HB; clear h0_ h1_ h2_ h3_ h4_ h5_; have HO0 := n0_; have HO188 := n1_; have HO191 := n2_; have HO1_3 := n3_; have BK185 := n4_; have HB := n5_; clear n0_ n1_ n2_ n3_ n4_ n5_; have hHeld : w31.cell? ⟨gb185, 0, none⟩ = some (.int .i64 (wrap64 ((l0.length : Int) + 1))) ∧ w31.cell? ⟨gb185, 1, none⟩ = some (.string a1_1) ∧ w31.cell? ⟨gb185, 2, none⟩ = some (.int .i64 a1_2) ∧ w31.cell? ⟨gb185, 3, none⟩ = some (.slice A1_3 l1_3.length c1_3) := hS_; obtain ⟨Ao33, co33, eo33⟩ := Kd.N_slice HO191.out
       (first | subst eo33 | (injection eo33 with f1_ f2_ f3_; have f4_ := f1_.symm; have f5_ := f3_.symm; clear f1_ f2_ f3_; subst f4_; subst f5_))
       refine norm_ (a' := ?_) ?_ ?_
       rotate_left
       · simp only [putAll, Act.put, List.setIfInBounds_toArray, List.set_cons_zero, List.set_cons_succ]
         rfl
       refine one_ (i := 4) (N := some 18) bD106 rfl rfl (by kernel_rfl) (by decide) (fun K hK => ?_)
       refine Kd.N_append_rows_step k43 (w0 := w) w.heap.size (by rfl) (.tmp 15) (.tmp 17) 22 43 (.agg #[(.int .i64 0), (.string ⟨#[]⟩), (.int .i64 0), (.slice none 0 0)]) 56 rfl Tryd.underlying22 info43 rfl (by decide) (by omega) v187 t186 y189 _ _ _ (fun k_ => ((P0_ k_ ∨ P1_3_ k_) ∨ w.heap.size ≤ k_) ∧ k_ ≠ gb185) (fun k_ => ((fun k_ => ((P0_ k_ ∨ P1_3_ k_) ∨ w.heap.size ≤ k_) ∧ k_ ≠ gb185)) k_ ∧ some k_ ≠ (v187 : Value).ownBlock) rfl rfl ?aO ?aR (fun _ hk => hk) ?aF ?aB ?aS ?aL ?_
       (case aR => exact qD106)
       (case aB => exact qD100)
       (case aF => exact qD1023)
       (case aO => exact qD1015)
       (case aS => exact (below_size qD100))
       (case aL => have := LMc6.out; omega)
       intro v193 w32 ho hb hg hat
       rw [← Ny192.out] at ho
       have n0_ := Aside0.mk (Kd.V_afterv (ok := (fun k_ => ((P0_ k_ ∨ P1_3_ k_) ∨ w.heap.size ≤ k_) ∧ some k_ ≠ (.slice Ao33 y189.length co33 : Value).ownBlock ∧ k_ ≠ gb185)) qD1014 hg hat)
       have n1_ := Aside0.mk (Kd.V_afterv (ok := (fun k_ => ((P0_ k_ ∨ P1_3_ k_) ∨ w.heap.size ≤ k_) ∧ some k_ ≠ (.slice Ao33 y189.length co33 : Value).ownBlock ∧ k_ ≠ gb185)) qD1011 hg hat)
       have n2_ := Aside0.mk (blk_grown (g := gb185) (o := .cells #[.int .i64 (wrap64 ((l0.length : Int) + 1)), .string a1_1, .int .i64 a1_2, .slice A1_3 l1_3.length c1_3] 43 (0, 0)) qD101 hg (Kd.N_away HO188.out (fun _ hk => hk.2.2)))
       have n3_ := Aside0.mk (Kd.N_afterv (ok := (fun k_ => ((P0_ k_ ∨ P1_3_ k_) ∨ w.heap.size ≤ k_) ∧ k_ ≠ gb185)) qD1018 hg hat)
       have n4_ := Aside0.mk (hb); have n5_ := Aside0.mk (ho); clear HO0; clear HO1_3; clear BK185; clear HO191; clear HB; clear HO188; have HO0 := n0_; have HO1_3 := n1_; have BK185 := n2_; have HO191 := n3_; have HB := n4_; have HO194 := n5_; clear n0_ n1_ n2_ n3_ n4_ n5_; clear ho hb hg hat; obtain ⟨Ao34, co34, eo34⟩ := Kd.N_slice HO194.out
       (first | subst eo34 | (injection eo34 with f1_ f2_ f3_; have f4_ := f1_.symm; have f5_ := f3_.symm; clear f1_ f2_ f3_; subst f4_; subst f5_))
       refine hK.out _ _ ⟨(blk_cell BK185.out 0).trans rfl, (blk_cell BK185.out 1).trans rfl, (blk_cell BK185.out 2).trans rfl, (blk_cell BK185.out 3).trans rfl⟩ (fun hHeld => ?_)
       clear hK K
       refine norm_ (a' := ?_) ?_ ?_
       rotate_left
       · show Act.put _ (some 18) _ = _
         simp only [Act.put, List.setIfInBounds_toArray, List.set_cons_zero, List.set_cons_succ, i64_w, i32_w]
         rfl
       refine one_ (i := 5) (N := some 19) bD107 rfl rfl (by kernel_rfl) (by decide) (fun K hK => ?_)
       refine goes_ Tryd.func36 (by kernel_rfl) rfl #[.slice Ao34 y192.length co34] (by rfl) rfl rfl qD105 ?_
       with_reducible refine (dag_copied.calls k (fun k_ => (((P0_ k_ ∨ P1_3_ k_) ∨ w.heap.size ≤ k_) ∧ k_ ≠ gb185)) _ _ y192 t195 _ ?side1 A7.out ?side2).mono ?_
       (case side1 => exact Kd.N_V (HO194.out))
       (case side2 => exact qD1024)
       rintro e w35 ⟨v196, rfl, ho0, hb⟩
       refine ⟨_, rfl, ?_⟩
       have n0_ := Aside0.mk (Kd.V_elder' (mVD10 HO0.out) (Kd.N_base ho0) hb); have n1_ := Aside0.mk (Kd.V_elder' (mVD10 HO1_3.out) (Kd.N_base ho0) hb); have n2_ := Aside0.mk (Kd.N_elder' (mND10 HO191.out) (Kd.N_base ho0) hb); have n3_ := Aside0.mk (Kd.N_elder' (mND10 HO194.out) (Kd.N_base ho0) hb)
       have n4_ := Aside0.mk (Kd.N_lower (Kd.N_mono (ok' := fun k_ => ((P0_ k_ ∨ P1_3_ k_) ∨ w.heap.size ≤ k_) ∧ k_ ≠ gb185) ho0 (fun k_ hk_ => ⟨Or.elim hk_ (fun hs_ => hs_.1) (fun hn_ => (.inr (Nat.le_trans (below_size qD100) hn_))), Or.elim hk_ (fun hs_ => hs_.2) (fun hn_ => (Kd.freshB (g := gb185) (o := .cells #[.int .i64 (wrap64 ((l0.length : Int) + 1)), .string a1_1, .int .i64 a1_2, .slice A1_3 l1_3.length c1_3] 43 (0, 0)) qD101 k_ hn_))⟩)) (below_size qD100))
       have n5_ := Aside0.mk (blk_below (g := gb185) (o := .cells #[.int .i64 (wrap64 ((l0.length : Int) + 1)), .string a1_1, .int .i64 a1_2, .slice A1_3 l1_3.length c1_3] 43 (0, 0)) qD101 hb); have n6_ := Aside0.mk (below_step qD100 hb); clear HO0; clear HO1_3; clear HO191; clear HO194; clear BK185; clear HB; have HO0 := n0_; have HO1_3 := n1_; have HO191 := n2_; have HO194 := n3_; have HO197 := n4_; have BK185 := n5_; have HB := n6_; clear n0_ n1_ n2_ n3_ n4_ n5_ n6_
       (try clear hb)
       (try clear hb2)
       (try clear hk)
       (try clear hi)
       (try clear ho0)
       refine hK.out _ _ ⟨(blk_cell BK185.out 0).trans rfl, (blk_cell BK185.out 1).trans rfl, (blk_cell BK185.out 2).trans rfl, (blk_cell BK185.out 3).trans rfl⟩ (fun hHeld => ?_)
       clear hK K
       refine norm_ (a' := ?_) ?_ ?_
       rotate_left
       · show Act.put _ (some 19) _ = _
         simp only [Act.put, List.setIfInBounds_toArray, List.set_cons_zero, List.set_cons_succ, i64_w, i32_w]
         rfl
       refine pure_ (i := 6) (N := some 6) (v := ?_) (a' := ?_) bD108 rfl rfl (by kernel_rfl) (fun _ _ _ h => h) (Or.inl ⟨by rfl, ?_⟩) ?_ ?_
       rotate_left
       · intro w'
         go_simp
         with_reducible rfl
       rotate_left
       · exact qsD100
       refine done_ (by kernel_rfl) ?_
       obtain ⟨Ao36, co36, eo36⟩ := Kd.N_slice HO197.out; subst eo36
       try go_wp2_with (first | ((with_reducible refine gate_callee (f := 21) rfl ?_); refine goesL_ (some 21) rfl rfl Tryd.func21 (by kernel_rfl) rfl #[.slice Ao36 t195.length co36] rfl qD105 ?_; (with_reducible refine (dag_Check.calls k _ _ t195 t198 _ ?side1 ?side2 A8.out ?side3).mono ?_); (case side1 => exact qD108); (case side2 => exact (Kd.N_reads' HO197.out).2.1); (case side3 => exact qD1024); rintro e w37 ⟨rfl, hb⟩; refine ⟨_, rfl, ?_⟩; have n0_ := Aside0.mk (Kd.V_below (mVD10 HO0.out) hb); have n1_ := Aside0.mk (Kd.V_below (mVD10 HO1_3.out) hb); have n2_ := Aside0.mk (Kd.N_below (mND10 HO191.out) hb); have n3_ := Aside0.mk (Kd.N_below (mND10 HO194.out) hb); have n4_ := Aside0.mk (Kd.N_below (mND10 HO197.out) hb); have n5_ := Aside0.mk (blk_below (g := gb185) (o := .cells #[.int .i64 (wrap64 ((l0.length : Int) + 1)), .string a1_1, .int .i64 a1_2, .slice A1_3 l1_3.length c1_3] 43 (0, 0)) qD101 hb); have n6_ := Aside0.mk (below_step qD100 hb); clear HO0; clear HO1_3; clear HO191; clear HO194; clear HO197; clear BK185; clear HB; have HO0 := n0_; have HO1_3 := n1_; have HO191 := n2_; have HO194 := n3_; have HO197 := n4_; have BK185 := n5_; have HB := n6_; clear n0_ n1_ n2_ n3_ n4_ n5_ n6_; (try clear hb); (try clear hb2); (try clear hk); (try clear hi)))
       go_ret2
       exact ⟨_, qD1019, qD1021, qD100⟩
   · rw [if_neg c6] at H
     exact absurd H (by simp)
set_option maxHeartbeats 8000000 in
set_option maxRecDepth 100000 in
theorem dag_Add.own (k : Nat) (P0_ : Nat → Prop) (A0 : Option Addr) (c0 : Nat) (l0 : List (S43)) (a1_0 : Int) (a1_1 : ByteArray) (a1_2 : Int) (P1_3_ : Nat → Prop) (A1_3 : Option Addr) (c1_3 : Nat) (l1_3 : List Int) (r1 : List (S43)) (r2 : Int) (w : World) (hs0 : Kd.V k43 43 w w.heap.size (fun k_ => P0_ k_) (.slice A0 l0.length c0) l0) (hs1_3 : Kd.V (Kd.int .i64) 3 w w.heap.size (fun k_ => P1_3_ k_) (.slice A1_3 l1_3.length c1_3) l1_3) (h : dag_Add.f k l0 a1_0 a1_1 a1_2 l1_3 = some (r1, r2)) (HG : Aside0 (Laid w)) :
 Calls Tryd.prog 23 #[.slice A0 l0.length c0, .agg #[.int .i64 a1_0, .string a1_1, .int .i64 a1_2, .slice A1_3 l1_3.length c1_3]] w fun e w' => ∃ v0_ : Value, e = .returned (.tuple #[v0_, .int .i64 r2]) ∧ Kd.N k43 43 w' w.heap.size (fun k_ => ((P0_ k_ ∨ P1_3_ k_) ∨ w.heap.size ≤ k_)) v0_ r1 ∧ Below w.heap.size w w' ∧ OwnTo w' w.heap.size v0_ r1.length r1 := by
 have hu43 := Tryd.underlying43
 have HO0 := Aside0.mk (show Kd.V k43 43 w w.heap.size (fun k_ => ((P0_ k_ ∨ P1_3_ k_) ∨ w.heap.size ≤ k_)) (.slice A0 l0.length c0) l0 from Kd.V_mono hs0 (fun k_ hk => .inl (.inl hk)))
 have HO1_3 := Aside0.mk (show Kd.V (Kd.int .i64) 3 w w.heap.size (fun k_ => ((P0_ k_ ∨ P1_3_ k_) ∨ w.heap.size ≤ k_)) (.slice A1_3 l1_3.length c1_3) l1_3 from Kd.V_mono hs1_3 (fun k_ hk => .inl (.inr hk)))
 have HB := Aside0.mk (Below.refl w.heap.size w)
 have H : (if (l0.length : Int) ≥ 1000 then (some (([] : List (S43)), 5)) else ((dag_Rev.f l0).bind fun t186 => ((some (([(⟨wrap64 ((l0.length : Int) + 1), a1_1, a1_2, l1_3⟩ : S43)] : List (S43)) : List (S43))).bind fun y189 => (if t186.length + y189.length < 2513169434916 then ((dag_copied.f k (t186 ++ y189)).bind fun t195 => ((dag_Check.f k t195).bind fun t198 => (if t198 = 0 then (some (t195, 0)) else (some (([] : List (S43)), 4))))) else (none))))) = some (r1, r2) := h
 clear h
 by_cases c3 : (l0.length : Int) ≥ 1000
 · rw [if_pos c3] at H
   have c3b0 : decide (1000 ≤ (l0.length : Int)) = true := decide_eq_true c3; have c3b1 : decide (1000 ≤ l0.length) = true := decide_eq_true (by omega); clear c3; simp only [Option.some.injEq, Prod.mk.injEq] at H; obtain ⟨rfl, rfl⟩ := H
   go_enter Tryd.func23, Tryd.ntmps23
   go_wp2_with (first | ((with_reducible refine gate_dst (N := 3) rfl ?_); refine box_event ?hg (N := 3) ?hd (cs := #[.int .i64 a1_0, .string a1_1, .int .i64 a1_2, .slice A1_3 l1_3.length c1_3]) (t := 43) ?hr ?_; (case hd => rfl); (case hg => rfl); (case hr => exact qD1020); intro gb185 hg w4 hbox hb; have n0_ := Aside0.mk (Kd.V_below (Kd.V_elderB (mVD10 HO0.out) gb185 (Nat.le_of_eq hg.symm)) hb); have n1_ := Aside0.mk (Kd.V_below (Kd.V_elderB (mVD10 HO1_3.out) gb185 (Nat.le_of_eq hg.symm)) hb); have n2_ := Aside0.mk (below_step qD103 hb); have n3_ := Aside0.mk (hbox); have n4_ := Aside0.mk ((by rw [hg]; exact (below_size qD103) : w.heap.size ≤ gb185)); have n5_ := Aside0.mk ((by rw [hg]; exact (below_size qD103) : w.heap.size ≤ gb185)); clear HO0; clear HO1_3; clear HB; have HO0 := n0_; have HO1_3 := n1_; have HB := n2_; have BK185 := n3_; have GW185 := n4_; have GE185 := n5_; clear n0_ n1_ n2_ n3_ n4_ n5_; clear hb hbox hg))
   go_ret2
   exact ⟨_, qD1019, qD1021, qD100, OwnTo.zero _ _ _ _⟩
 · rw [if_neg c3] at H
   have c3b0 : decide (1000 ≤ (l0.length : Int)) = false := decide_eq_false c3; have c3b1 : decide (1000 ≤ l0.length) = false := decide_eq_false (by omega); clear c3; replace H := Option.bind_eq_some_iff.mp H; obtain ⟨t186, A50, H⟩ := H
   replace H : ((some (([(⟨wrap64 ((l0.length : Int) + 1), a1_1, a1_2, l1_3⟩ : S43)] : List (S43)) : List (S43))).bind fun y189 => (if t186.length + y189.length < 2513169434916 then ((dag_copied.f k (t186 ++ y189)).bind fun t195 => ((dag_Check.f k t195).bind fun t198 => (if t198 = 0 then (some (t195, 0)) else (some (([] : List (S43)), 4))))) else (none))) = some (r1, r2) := H
   have A5 := Aside0.mk A50; clear A50; obtain ⟨y189, hy189⟩ : ∃ y_ : List (S43), y_ = (([(⟨wrap64 ((l0.length : Int) + 1), a1_1, a1_2, l1_3⟩ : S43)] : List (S43))) := ⟨_, rfl⟩
   replace H : (if t186.length + y189.length < 2513169434916 then ((dag_copied.f k (t186 ++ y189)).bind fun t195 => ((dag_Check.f k t195).bind fun t198 => (if t198 = 0 then (some (t195, 0)) else (some (([] : List (S43)), 4))))) else (none)) = some (r1, r2) := by first | (rw [hy189]; with_reducible exact H) | (have H2_ := (Option.bind_some _ _).symm.trans H; rw [hy189]; with_reducible exact H2_) | (have H2_ := (Option.bind_some _ _).symm.trans H; with_reducible exact H2_) | with_reducible exact H | (rw [hy189]; exact H) | exact H
   have Ny189 := Aside0.mk hy189; clear hy189
   by_cases c6 : t186.length + y189.length < 2513169434916
   · rw [if_pos c6] at H
     have LMc6 := Aside0.mk c6; clear c6; obtain ⟨y192, hy192⟩ : ∃ y_ : List (S43), y_ = (t186 ++ y189) := ⟨_, rfl⟩
     replace H : ((dag_copied.f k y192).bind fun t195 => ((dag_Check.f k t195).bind fun t198 => (if t198 = 0 then (some (t195, 0)) else (some (([] : List (S43)), 4))))) = some (r1, r2) := by first | (rw [hy192]; with_reducible exact H) | (have H2_ := (Option.bind_some _ _).symm.trans H; rw [hy192]; with_reducible exact H2_) | (have H2_ := (Option.bind_some _ _).symm.trans H; with_reducible exact H2_) | with_reducible exact H | (rw [hy192]; exact H) | exact H
     have Ny192 := Aside0.mk hy192; clear hy192; replace H := Option.bind_eq_some_iff.mp H; obtain ⟨t195, A70, H⟩ := H
     replace H : ((dag_Check.f k t195).bind fun t198 => (if t198 = 0 then (some (t195, 0)) else (some (([] : List (S43)), 4)))) = some (r1, r2) := H
     have A7 := Aside0.mk A70; clear A70; replace H := Option.bind_eq_some_iff.mp H; obtain ⟨t198, A80, H⟩ := H
     replace H : (if t198 = 0 then (some (t195, 0)) else (some (([] : List (S43)), 4))) = some (r1, r2) := H
     have A8 := Aside0.mk A80; clear A80
     by_cases c9 : t198 = 0
     · rw [if_pos c9] at H
       have c9b0 : (t198 == 0) = true := beq_iff_eq.mpr c9; have c9b1 : (t198 != 0) = false := bne_eq_false_iff_eq.mpr c9; clear c9; simp only [Option.some.injEq, Prod.mk.injEq] at H; obtain ⟨rfl, rfl⟩ := H
       go_enter Tryd.func23, Tryd.ntmps23
       try go_wp2_with (first | ((with_reducible refine gate_dst (N := 3) rfl ?_); refine box_event ?hg (N := 3) ?hd (cs := #[.int .i64 a1_0, .string a1_1, .int .i64 a1_2, .slice A1_3 l1_3.length c1_3]) (t := 43) ?hr ?_; (case hd => rfl); (case hg => rfl); (case hr => exact qD1020); intro gb185 hg w10 hbox hb; have n0_ := Aside0.mk (Kd.V_below (Kd.V_elderB (mVD10 HO0.out) gb185 (Nat.le_of_eq hg.symm)) hb); have n1_ := Aside0.mk (Kd.V_below (Kd.V_elderB (mVD10 HO1_3.out) gb185 (Nat.le_of_eq hg.symm)) hb); have n2_ := Aside0.mk (below_step qD103 hb); have n3_ := Aside0.mk (hbox); have n4_ := Aside0.mk ((by rw [hg]; exact (below_size qD103) : w.heap.size ≤ gb185)); have n5_ := Aside0.mk ((by rw [hg]; exact (below_size qD103) : w.heap.size ≤ gb185)); clear HO0; clear HO1_3; clear HB; have HO0 := n0_; have HO1_3 := n1_; have HB := n2_; have BK185 := n3_; have GW185 := n4_; have GE185 := n5_; clear n0_ n1_ n2_ n3_ n4_ n5_; clear hb hbox hg; have hcz11_0 : w10.cell? ⟨gb185, 0, none⟩ = some (.int .i64 a1_0) := (blk_cell BK185.out 0).trans rfl; have hcz11_1 : w10.cell? ⟨gb185, 1, none⟩ = some (.string a1_1) := (blk_cell BK185.out 1).trans rfl; have hcz11_2 : w10.cell? ⟨gb185, 2, none⟩ = some (.int .i64 a1_2) := (blk_cell BK185.out 2).trans rfl; have hcz11_3 : w10.cell? ⟨gb185, 3, none⟩ = some (.slice A1_3 l1_3.length c1_3) := (blk_cell BK185.out 3).trans rfl; have hfz11_0 := blk_frozen BK185.out 0; have hfz11_1 := blk_frozen BK185.out 1; have hfz11_2 := blk_frozen BK185.out 2; have hfz11_3 := blk_frozen BK185.out 3))
       have n0_ : Aside0 (Kd.V k43 43 (w10.setCell ⟨gb185, 0, none⟩ (.int .i64 (wrap64 ((l0.length : Int) + 1)))) w.heap.size (fun k_ => ((P0_ k_ ∨ P1_3_ k_) ∨ w.heap.size ≤ k_) ∧ k_ ≠ gb185) (.slice A0 l0.length c0) l0) := ⟨by (with_reducible repeat (first | apply Kd.V_alloc | apply Kd.V_drewN | apply Kd.V_drew)); exact Kd.V_mono (Kd.V_far (p := ⟨gb185, 0, none⟩) (Kd.V_mono HO0.out (fun k_ hk => (⟨hk, hk.2⟩ : _ ∧ k_ ≠ gb185))) (fun _ hk => hk.2) (.int .i64 (wrap64 ((l0.length : Int) + 1)))) (fun _ hk => ⟨hk.1.1, hk.1.2⟩)⟩
       have n1_ : Aside0 (Kd.V (Kd.int .i64) 3 (w10.setCell ⟨gb185, 0, none⟩ (.int .i64 (wrap64 ((l0.length : Int) + 1)))) w.heap.size (fun k_ => ((P0_ k_ ∨ P1_3_ k_) ∨ w.heap.size ≤ k_) ∧ k_ ≠ gb185) (.slice A1_3 l1_3.length c1_3) l1_3) := ⟨by (with_reducible repeat (first | apply Kd.V_alloc | apply Kd.V_drewN | apply Kd.V_drew)); exact Kd.V_mono (Kd.V_far (p := ⟨gb185, 0, none⟩) (Kd.V_mono HO1_3.out (fun k_ hk => (⟨hk, hk.2⟩ : _ ∧ k_ ≠ gb185))) (fun _ hk => hk.2) (.int .i64 (wrap64 ((l0.length : Int) + 1)))) (fun _ hk => ⟨hk.1.1, hk.1.2⟩)⟩
       have n2_ : Aside0 ((w10.setCell ⟨gb185, 0, none⟩ (.int .i64 (wrap64 ((l0.length : Int) + 1)))).heap[gb185]? = some (.cells #[.int .i64 (wrap64 ((l0.length : Int) + 1)), .string a1_1, .int .i64 a1_2, .slice A1_3 l1_3.length c1_3] 43 (0, 0))) := ⟨by (with_reducible repeat (first | refine blk_drewN ?_ _ | refine blk_drew ?_ | refine blk_alloc ?_ _)); refine blk_put (cs := #[.int .i64 a1_0, .string a1_1, .int .i64 a1_2, .slice A1_3 l1_3.length c1_3]) ?_ 0 _ qD1022; (with_reducible repeat (first | refine blk_drewN ?_ _ | refine blk_drew ?_ | refine blk_alloc ?_ _)); exact BK185.out⟩; have n3_ : Aside0 (Below w.heap.size w (w10.setCell ⟨gb185, 0, none⟩ (.int .i64 (wrap64 ((l0.length : Int) + 1))))) := ⟨qD100⟩
       (try clear HO0)
       (try clear HO1_3)
       (try clear BK185)
       (try clear HB)
       generalize (w10.setCell ⟨gb185, 0, none⟩ (.int .i64 (wrap64 ((l0.length : Int) + 1)))) = w12 at n0_ n1_ n2_ n3_ ⊢
       have HO0 := n0_; have HO1_3 := n1_; have BK185 := n2_; have HB := n3_; clear n0_ n1_ n2_ n3_; have n0_ := Aside0.mk (Kd.V_drew HO0.out); have n1_ := Aside0.mk (Kd.V_drew HO1_3.out); have n2_ := Aside0.mk (blk_drew BK185.out); have n3_ := Aside0.mk (below_drew1 HB.out); clear HO0; clear HO1_3; clear BK185; clear HB; have HO0 := n0_; have HO1_3 := n1_; have BK185 := n2_; have HB := n3_; clear n0_ n1_ n2_ n3_
       refine start_ (n := 7) (S := fun w' => w'.cell? ⟨gb185, 0, none⟩ = some (.int .i64 (wrap64 ((l0.length : Int) + 1))) ∧ w'.cell? ⟨gb185, 1, none⟩ = some (.string a1_1) ∧ w'.cell? ⟨gb185, 2, none⟩ = some (.int .i64 a1_2) ∧ w'.cell? ⟨gb185, 3, none⟩ = some (.slice A1_3 l1_3.length c1_3)) (ds := []) bD100 (by kernel_rfl) rfl rfl ⟨(blk_cell BK185.out 0).trans rfl, (blk_cell BK185.out 1).trans rfl, (blk_cell BK185.out 2).trans rfl, (blk_cell BK185.out 3).trans rfl⟩ (fun hHeld => ?_)
       generalize w12.drew = w13 at HO0 HO1_3 BK185 HB hHeld ⊢
       refine pure_ (i := 0) (N := some 14) (v := ?_) (a' := ?_) bD101 rfl rfl (by kernel_rfl) (fun _ _ _ h => h) (Or.inl ⟨by rfl, ?_⟩) ?_ ?_
       rotate_left
       · intro w'
         go_simp
         with_reducible rfl
       rotate_left
       · exact qsD100
       refine take_ (i := 2) (N := some 16) (v := ?_) (a' := ?_) bD102 rfl rfl (by kernel_rfl) (fun _ _ _ h => h) (Or.inl ⟨by rfl, ?_⟩) hHeld ?_ ?_
       rotate_left
       · rintro w' ⟨s0, s1, s2, s3⟩
         go_simp
         with_reducible rfl
       rotate_left
       · exact qsD100
       refine join_ (σ := Value × Value) 3 bD103 (fun s_ => [(15, s_.1), (17, s_.2)]) (fun s_ w' => (w'.cell? ⟨gb185, 0, none⟩ = some (.int .i64 (wrap64 ((l0.length : Int) + 1))) ∧ w'.cell? ⟨gb185, 1, none⟩ = some (.string a1_1) ∧ w'.cell? ⟨gb185, 2, none⟩ = some (.int .i64 a1_2) ∧ w'.cell? ⟨gb185, 3, none⟩ = some (.slice A1_3 l1_3.length c1_3)) ∧ (Kd.V k43 43 w' w.heap.size (fun k_ => ((P0_ k_ ∨ P1_3_ k_) ∨ w.heap.size ≤ k_) ∧ some k_ ≠ (s_.1 : Value).ownBlock ∧ some k_ ≠ (s_.2 : Value).ownBlock ∧ k_ ≠ gb185) (.slice A0 l0.length c0) l0) ∧ (Kd.N k43 43 w' w.heap.size (fun k_ => ((P0_ k_ ∨ P1_3_ k_) ∨ w.heap.size ≤ k_) ∧ some k_ ≠ (s_.2 : Value).ownBlock ∧ k_ ≠ gb185) s_.1 t186) ∧ (Kd.N k43 43 w' w.heap.size (fun k_ => ((P0_ k_ ∨ P1_3_ k_) ∨ w.heap.size ≤ k_) ∧ some k_ ≠ (s_.1 : Value).ownBlock ∧ k_ ≠ gb185) s_.2 y189) ∧ (Kd.V (Kd.int .i64) 3 w' w.heap.size (fun k_ => ((P0_ k_ ∨ P1_3_ k_) ∨ w.heap.size ≤ k_) ∧ some k_ ≠ (s_.1 : Value).ownBlock ∧ some k_ ≠ (s_.2 : Value).ownBlock ∧ k_ ≠ gb185) (.slice A1_3 l1_3.length c1_3) l1_3) ∧ (w'.heap[gb185]? = some (.cells #[.int .i64 (wrap64 ((l0.length : Int) + 1)), .string a1_1, .int .i64 a1_2, .slice A1_3 l1_3.length c1_3] 43 (0, 0))) ∧ (Below w.heap.size w w')) ?_ ?_
       rotate_left
       · intro hCont
         refine two_ (i := 1) (j := 3) (Ni := some 15) (Nj := some 17) bD104 bD105 rfl rfl rfl rfl (by kernel_rfl) (by decide) (by decide) (fun K hK => ?_) (fun K hK => ?_)
         · skip
           refine goes_ Tryd.func37 (by kernel_rfl) rfl #[.slice A0 l0.length c0] (by rfl) rfl rfl qD105 ?_
           with_reducible refine (dag_Rev.calls (fun k_ => (((P0_ k_ ∨ P1_3_ k_) ∨ w.heap.size ≤ k_) ∧ k_ ≠ gb185)) _ _ l0 t186 _ ?side1 A5.out ?side2).mono ?_
           (case side1 => exact HO0.out)
           (case side2 => exact qD1024)
           rintro e w14 ⟨v187, rfl, ho0, hb⟩
           refine ⟨_, rfl, ?_⟩
           have n0_ := Aside0.mk (Kd.V_elder' (mVD10 HO0.out) (Kd.N_base ho0) hb); have n1_ := Aside0.mk (Kd.V_elder' (mVD10 HO1_3.out) (Kd.N_base ho0) hb)
           have n2_ := Aside0.mk (Kd.N_lower (Kd.N_mono (ok' := fun k_ => ((P0_ k_ ∨ P1_3_ k_) ∨ w.heap.size ≤ k_) ∧ k_ ≠ gb185) ho0 (fun k_ hk_ => ⟨Or.elim hk_ (fun hs_ => hs_.1) (fun hn_ => (.inr (Nat.le_trans (below_size qD100) hn_))), Or.elim hk_ (fun hs_ => hs_.2) (fun hn_ => (Kd.freshB (g := gb185) (o := .cells #[.int .i64 (wrap64 ((l0.length : Int) + 1)), .string a1_1, .int .i64 a1_2, .slice A1_3 l1_3.length c1_3] 43 (0, 0)) qD101 k_ hn_))⟩)) (below_size qD100))
           have n3_ := Aside0.mk (blk_below (g := gb185) (o := .cells #[.int .i64 (wrap64 ((l0.length : Int) + 1)), .string a1_1, .int .i64 a1_2, .slice A1_3 l1_3.length c1_3] 43 (0, 0)) qD101 hb); have n4_ := Aside0.mk (below_step qD100 hb); clear HO0; clear HO1_3; clear BK185; clear HB; have HO0 := n0_; have HO1_3 := n1_; have HO188 := n2_; have BK185 := n3_; have HB := n4_; clear n0_ n1_ n2_ n3_ n4_
           (try clear hb)
           (try clear hb2)
           (try clear hk)
           (try clear hi)
           (try clear ho0)
           refine hK.out _ _ ⟨(blk_cell BK185.out 0).trans rfl, (blk_cell BK185.out 1).trans rfl, (blk_cell BK185.out 2).trans rfl, (blk_cell BK185.out 3).trans rfl⟩ (fun hHeld => ?_)
           clear hK K
           refine norm_ (a' := ?_) ?_ ?_
           rotate_left
           · show Act.put _ (some 15) _ = _
             simp only [Act.put, List.setIfInBounds_toArray, List.set_cons_zero, List.set_cons_succ, i64_w, i32_w]
             rfl
           refine one_ (i := 3) (N := some 17) bD103 rfl rfl (by kernel_rfl) (by decide) (fun K hK => ?_)
           refine Kd.N_lit_step k43 _ 43 ?hg (N' := 17) ?hd (xs := ([(⟨wrap64 ((l0.length : Int) + 1), a1_1, a1_2, l1_3⟩ : S43)] : List (S43))) (inner := [.int .i64 (wrap64 ((l0.length : Int) + 1)), .string a1_1, .int .i64 a1_2, .slice A1_3 l1_3.length c1_3]) (ok := (fun k_ => ((P0_ k_ ∨ P1_3_ k_) ∨ w.heap.size ≤ k_) ∧ some k_ ≠ (v187 : Value).ownBlock ∧ k_ ≠ gb185)) (okp := (fun k_ => ((P0_ k_ ∨ P1_3_ k_) ∨ w.heap.size ≤ k_) ∧ some k_ ≠ (v187 : Value).ownBlock ∧ k_ ≠ gb185)) ?hr ?hp (fun _ hk => hk) ((show ∀ k_, w14.heap.size ≤ k_ → (fun k_ => ((P0_ k_ ∨ P1_3_ k_) ∨ w.heap.size ≤ k_) ∧ some k_ ≠ (v187 : Value).ownBlock ∧ k_ ≠ gb185) k_ from fun k_ hk => ⟨(.inr (Nat.le_trans (below_size qD100) hk)), Kd.fresh' (Kd.N_lt (mND10 HO188.out)) k_ hk, Kd.freshB (g := gb185) (o := .cells #[.int .i64 (wrap64 ((l0.length : Int) + 1)), .string a1_1, .int .i64 a1_2, .slice A1_3 l1_3.length c1_3] 43 (0, 0)) qD101 k_ hk⟩) _ (Nat.le_refl _)) (Below.refl _ _) (Nat.le_refl _) (by simp) ?_; (case hd => rfl); (case hg => rfl); (case hr => exact qD1020); (case hp => exact qD102)
           intro v190 w15 ho16 hb hg_ hnew_
           clear hg_ hnew_
           (first | rw [← Ny189.out] at ho16 | (simp only [Int.reduceToNat] at ho16; rw [← Ny189.out] at ho16))
           have n0_ := Aside0.mk (Kd.V_elder' (mVD10 HO0.out) (Kd.N_base ho16) hb); have n1_ := Aside0.mk (Kd.V_elder' (mVD10 HO1_3.out) (Kd.N_base ho16) hb); have n2_ := Aside0.mk (Kd.N_elder' (mND10 HO188.out) (Kd.N_base ho16) hb); have n3_ := Aside0.mk (Kd.N_lower ho16 (below_size qD100)); have n4_ := Aside0.mk (blk_below (g := gb185) (o := .cells #[.int .i64 (wrap64 ((l0.length : Int) + 1)), .string a1_1, .int .i64 a1_2, .slice A1_3 l1_3.length c1_3] 43 (0, 0)) qD101 hb); have n5_ := Aside0.mk (below_step qD100 hb); clear HO0; clear HO1_3; clear HO188; clear BK185; clear HB; have HO0 := n0_; have HO1_3 := n1_; have HO188 := n2_; have HO191 := n3_; have BK185 := n4_; have HB := n5_; clear n0_ n1_ n2_ n3_ n4_ n5_; clear hb ho16
           refine hK.out _ _ ⟨(blk_cell BK185.out 0).trans rfl, (blk_cell BK185.out 1).trans rfl, (blk_cell BK185.out 2).trans rfl, (blk_cell BK185.out 3).trans rfl⟩ (fun hHeld => ?_)
           clear hK K
           refine norm_ (a' := ?_) ?_ ?_
           rotate_left
           · show Act.put _ (some 17) _ = _
             simp only [Act.put, List.setIfInBounds_toArray, List.set_cons_zero, List.set_cons_succ, i64_w, i32_w]
             rfl
           exact norm_ qD107 (hCont (v187, v190) _ ⟨hHeld, qD1012, qD1016, (mND10 HO191.out), qD109, qD101, qD100⟩)
         · skip
           refine Kd.N_lit_step k43 _ 43 ?hg (N' := 17) ?hd (xs := ([(⟨wrap64 ((l0.length : Int) + 1), a1_1, a1_2, l1_3⟩ : S43)] : List (S43))) (inner := [.int .i64 (wrap64 ((l0.length : Int) + 1)), .string a1_1, .int .i64 a1_2, .slice A1_3 l1_3.length c1_3]) (ok := (fun k_ => ((P0_ k_ ∨ P1_3_ k_) ∨ w.heap.size ≤ k_) ∧ k_ ≠ gb185)) (okp := (fun k_ => ((P0_ k_ ∨ P1_3_ k_) ∨ w.heap.size ≤ k_) ∧ k_ ≠ gb185)) ?hr ?hp (fun _ hk => hk) ((show ∀ k_, w13.heap.size ≤ k_ → (fun k_ => ((P0_ k_ ∨ P1_3_ k_) ∨ w.heap.size ≤ k_) ∧ k_ ≠ gb185) k_ from fun k_ hk => ⟨(.inr (Nat.le_trans (below_size qD100) hk)), Kd.freshB (g := gb185) (o := .cells #[.int .i64 (wrap64 ((l0.length : Int) + 1)), .string a1_1, .int .i64 a1_2, .slice A1_3 l1_3.length c1_3] 43 (0, 0)) qD101 k_ hk⟩) _ (Nat.le_refl _)) (Below.refl _ _) (Nat.le_refl _) (by simp) ?_; (case hd => rfl); (case hg => rfl); (case hr => exact qD1020); (case hp => exact qD104)
           intro v190 w14 ho15 hb hg_ hnew_
           clear hg_ hnew_
           (first | rw [← Ny189.out] at ho15 | (simp only [Int.reduceToNat] at ho15; rw [← Ny189.out] at ho15))
           have n0_ := Aside0.mk (Kd.V_elder' (mVD10 HO0.out) (Kd.N_base ho15) hb); have n1_ := Aside0.mk (Kd.V_elder' (mVD10 HO1_3.out) (Kd.N_base ho15) hb); have n2_ := Aside0.mk (Kd.N_lower ho15 (below_size qD100)); have n3_ := Aside0.mk (blk_below (g := gb185) (o := .cells #[.int .i64 (wrap64 ((l0.length : Int) + 1)), .string a1_1, .int .i64 a1_2, .slice A1_3 l1_3.length c1_3] 43 (0, 0)) qD101 hb); have n4_ := Aside0.mk (below_step qD100 hb); clear HO0; clear HO1_3; clear BK185; clear HB; have HO0 := n0_; have HO1_3 := n1_; have HO191 := n2_; have BK185 := n3_; have HB := n4_; clear n0_ n1_ n2_ n3_ n4_; clear hb ho15
           refine hK.out _ _ ⟨(blk_cell BK185.out 0).trans rfl, (blk_cell BK185.out 1).trans rfl, (blk_cell BK185.out 2).trans rfl, (blk_cell BK185.out 3).trans rfl⟩ (fun hHeld => ?_)
           clear hK K
           refine norm_ (a' := ?_) ?_ ?_
           rotate_left
           · show Act.put _ (some 17) _ = _
             simp only [Act.put, List.setIfInBounds_toArray, List.set_cons_zero, List.set_cons_succ, i64_w, i32_w]
             rfl
           refine one_ (i := 1) (N := some 15) bD103 rfl rfl (by kernel_rfl) (by decide) (fun K hK => ?_)
           refine goes_ Tryd.func37 (by kernel_rfl) rfl #[.slice A0 l0.length c0] (by rfl) rfl rfl qD105 ?_
           with_reducible refine (dag_Rev.calls (fun k_ => ((((P0_ k_ ∨ P1_3_ k_) ∨ w.heap.size ≤ k_) ∧ k_ ≠ gb185) ∧ some k_ ≠ (v190 : Value).ownBlock)) _ _ l0 t186 _ ?side1 A5.out ?side2).mono ?_
           (case side1 => exact HO0.out)
           (case side2 => exact qD1024)
           rintro e w16 ⟨v187, rfl, ho0, hb⟩
           refine ⟨_, rfl, ?_⟩
           have n0_ := Aside0.mk (Kd.V_elder' (mVD10 HO0.out) (Kd.N_base ho0) hb); have n1_ := Aside0.mk (Kd.V_elder' (mVD10 HO1_3.out) (Kd.N_base ho0) hb); have n2_ := Aside0.mk (Kd.N_elder' (mND10 HO191.out) (Kd.N_base ho0) hb)
           have n3_ := Aside0.mk (Kd.N_lower (Kd.N_mono (ok' := fun k_ => ((P0_ k_ ∨ P1_3_ k_) ∨ w.heap.size ≤ k_) ∧ some k_ ≠ (v190 : Value).ownBlock ∧ k_ ≠ gb185) ho0 (fun k_ hk_ => ⟨Or.elim hk_ (fun hs_ => hs_.1.1) (fun hn_ => (.inr (Nat.le_trans (below_size qD100) hn_))), Or.elim hk_ (fun hs_ => hs_.2) (fun hn_ => (Kd.fresh' (Kd.N_lt (mND10 HO191.out)) k_ hn_)), Or.elim hk_ (fun hs_ => hs_.1.2) (fun hn_ => (Kd.freshB (g := gb185) (o := .cells #[.int .i64 (wrap64 ((l0.length : Int) + 1)), .string a1_1, .int .i64 a1_2, .slice A1_3 l1_3.length c1_3] 43 (0, 0)) qD101 k_ hn_))⟩)) (below_size qD100))
           have n4_ := Aside0.mk (blk_below (g := gb185) (o := .cells #[.int .i64 (wrap64 ((l0.length : Int) + 1)), .string a1_1, .int .i64 a1_2, .slice A1_3 l1_3.length c1_3] 43 (0, 0)) qD101 hb); have n5_ := Aside0.mk (below_step qD100 hb); clear HO0; clear HO1_3; clear HO191; clear BK185; clear HB; have HO0 := n0_; have HO1_3 := n1_; have HO191 := n2_; have HO188 := n3_; have BK185 := n4_; have HB := n5_; clear n0_ n1_ n2_ n3_ n4_ n5_
           (try clear hb)
           (try clear hb2)
           (try clear hk)
           (try clear hi)
           (try clear ho0)
           refine hK.out _ _ ⟨(blk_cell BK185.out 0).trans rfl, (blk_cell BK185.out 1).trans rfl, (blk_cell BK185.out 2).trans rfl, (blk_cell BK185.out 3).trans rfl⟩ (fun hHeld => ?_)
           clear hK K
           refine norm_ (a' := ?_) ?_ ?_
           rotate_left
           · show Act.put _ (some 15) _ = _
             simp only [Act.put, List.setIfInBounds_toArray, List.set_cons_zero, List.set_cons_succ, i64_w, i32_w]
             rfl
           exact norm_ qD107 (hCont (v187, v190) _ ⟨hHeld, qD1013, (mND10 HO188.out), qD1017, qD1010, qD101, qD100⟩)
       rintro ⟨v187, v190⟩ w17 ⟨hS_, h0_, h1_, h2_, h3_, h4_, h5_⟩
       have n0_ : Aside0 (Kd.V k43 43 w17 w.heap.size (fun k_ => ((P0_ k_ ∨ P1_3_ k_) ∨ w.heap.size ≤ k_) ∧ some k_ ≠ (v187 : Value).ownBlock ∧ some k_ ≠ (v190 : Value).ownBlock ∧ k_ ≠ gb185) (.slice A0 l0.length c0) l0) := ⟨h0_⟩
       have n1_ : Aside0 (Kd.N k43 43 w17 w.heap.size (fun k_ => ((P0_ k_ ∨ P1_3_ k_) ∨ w.heap.size ≤ k_) ∧ some k_ ≠ (v190 : Value).ownBlock ∧ k_ ≠ gb185) v187 t186) := ⟨h1_⟩
       have n2_ : Aside0 (Kd.N k43 43 w17 w.heap.size (fun k_ => ((P0_ k_ ∨ P1_3_ k_) ∨ w.heap.size ≤ k_) ∧ some k_ ≠ (v187 : Value).ownBlock ∧ k_ ≠ gb185) v190 y189) := ⟨h2_⟩
       have n3_ : Aside0 (Kd.V (Kd.int .i64) 3 w17 w.heap.size (fun k_ => ((P0_ k_ ∨ P1_3_ k_) ∨ w.heap.size ≤ k_) ∧ some k_ ≠ (v187 : Value).ownBlock ∧ some k_ ≠ (v190 : Value).ownBlock ∧ k_ ≠ gb185) (.slice A1_3 l1_3.length c1_3) l1_3) := ⟨h3_⟩
       have n4_ : Aside0 (w17.heap[gb185]? = some (.cells #[.int .i64 (wrap64 ((l0.length : Int) + 1)), .string a1_1, .int .i64 a1_2, .slice A1_3 l1_3.length c1_3] 43 (0, 0))) := ⟨h4_⟩; have n5_ : Aside0 (Below w.heap.size w w17) := ⟨h5_⟩; clear HO0; clear HO1_3; clear BK185; clear HB; clear h0_ h1_ h2_ h3_ h4_ h5_; have HO0 := n0_; have HO188 := n1_; have HO191 := n2_; have HO1_3 := n3_; have BK185 := n4_; have HB := n5_; clear n0_ n1_ n2_ n3_ n4_ n5_; have hHeld : w17.cell? ⟨gb185, 0, none⟩ = some (.int .i64 (wrap64 ((l0.length : Int) + 1))) ∧ w17.cell? ⟨gb185, 1, none⟩ = some (.string a1_1) ∧ w17.cell? ⟨gb185, 2, none⟩ = some (.int .i64 a1_2) ∧ w17.cell? ⟨gb185, 3, none⟩ = some (.slice A1_3 l1_3.length c1_3) := hS_; obtain ⟨Ao19, co19, eo19⟩ := Kd.N_slice HO191.out
       (first | subst eo19 | (injection eo19 with f1_ f2_ f3_; have f4_ := f1_.symm; have f5_ := f3_.symm; clear f1_ f2_ f3_; subst f4_; subst f5_))
       refine norm_ (a' := ?_) ?_ ?_
       rotate_left
       · simp only [putAll, Act.put, List.setIfInBounds_toArray, List.set_cons_zero, List.set_cons_succ]
         rfl
       refine one_ (i := 4) (N := some 18) bD106 rfl rfl (by kernel_rfl) (by decide) (fun K hK => ?_)
       refine Kd.N_append_rows_step k43 (w0 := w) w.heap.size (by rfl) (.tmp 15) (.tmp 17) 22 43 (.agg #[(.int .i64 0), (.string ⟨#[]⟩), (.int .i64 0), (.slice none 0 0)]) 56 rfl Tryd.underlying22 info43 rfl (by decide) (by omega) v187 t186 y189 _ _ _ (fun k_ => ((P0_ k_ ∨ P1_3_ k_) ∨ w.heap.size ≤ k_) ∧ k_ ≠ gb185) (fun k_ => ((fun k_ => ((P0_ k_ ∨ P1_3_ k_) ∨ w.heap.size ≤ k_) ∧ k_ ≠ gb185)) k_ ∧ some k_ ≠ (v187 : Value).ownBlock) rfl rfl ?aO ?aR (fun _ hk => hk) ?aF ?aB ?aS ?aL ?_
       (case aR => exact qD106)
       (case aB => exact qD100)
       (case aF => exact qD1023)
       (case aO => exact qD1015)
       (case aS => exact (below_size qD100))
       (case aL => have := LMc6.out; omega)
       intro v193 w18 ho hb hg hat
       rw [← Ny192.out] at ho
       have n0_ := Aside0.mk (Kd.V_afterv (ok := (fun k_ => ((P0_ k_ ∨ P1_3_ k_) ∨ w.heap.size ≤ k_) ∧ some k_ ≠ (.slice Ao19 y189.length co19 : Value).ownBlock ∧ k_ ≠ gb185)) qD1014 hg hat)
       have n1_ := Aside0.mk (Kd.V_afterv (ok := (fun k_ => ((P0_ k_ ∨ P1_3_ k_) ∨ w.heap.size ≤ k_) ∧ some k_ ≠ (.slice Ao19 y189.length co19 : Value).ownBlock ∧ k_ ≠ gb185)) qD1011 hg hat)
       have n2_ := Aside0.mk (blk_grown (g := gb185) (o := .cells #[.int .i64 (wrap64 ((l0.length : Int) + 1)), .string a1_1, .int .i64 a1_2, .slice A1_3 l1_3.length c1_3] 43 (0, 0)) qD101 hg (Kd.N_away HO188.out (fun _ hk => hk.2.2)))
       have n3_ := Aside0.mk (Kd.N_afterv (ok := (fun k_ => ((P0_ k_ ∨ P1_3_ k_) ∨ w.heap.size ≤ k_) ∧ k_ ≠ gb185)) qD1018 hg hat)
       have n4_ := Aside0.mk (hb); have n5_ := Aside0.mk (ho); clear HO0; clear HO1_3; clear BK185; clear HO191; clear HB; clear HO188; have HO0 := n0_; have HO1_3 := n1_; have BK185 := n2_; have HO191 := n3_; have HB := n4_; have HO194 := n5_; clear n0_ n1_ n2_ n3_ n4_ n5_; clear ho hb hg hat; obtain ⟨Ao20, co20, eo20⟩ := Kd.N_slice HO194.out
       (first | subst eo20 | (injection eo20 with f1_ f2_ f3_; have f4_ := f1_.symm; have f5_ := f3_.symm; clear f1_ f2_ f3_; subst f4_; subst f5_))
       refine hK.out _ _ ⟨(blk_cell BK185.out 0).trans rfl, (blk_cell BK185.out 1).trans rfl, (blk_cell BK185.out 2).trans rfl, (blk_cell BK185.out 3).trans rfl⟩ (fun hHeld => ?_)
       clear hK K
       refine norm_ (a' := ?_) ?_ ?_
       rotate_left
       · show Act.put _ (some 18) _ = _
         simp only [Act.put, List.setIfInBounds_toArray, List.set_cons_zero, List.set_cons_succ, i64_w, i32_w]
         rfl
       refine one_ (i := 5) (N := some 19) bD107 rfl rfl (by kernel_rfl) (by decide) (fun K hK => ?_)
       refine goes_ Tryd.func36 (by kernel_rfl) rfl #[.slice Ao20 y192.length co20] (by rfl) rfl rfl qD105 ?_
       with_reducible refine (dag_copied.own k (fun k_ => (((P0_ k_ ∨ P1_3_ k_) ∨ w.heap.size ≤ k_) ∧ k_ ≠ gb185)) _ _ y192 t195 _ ?side1 A7.out ?side2).mono ?_
       (case side1 => exact Kd.N_V (HO194.out))
       (case side2 => exact qD1024)
       rintro e w21 ⟨v196, rfl, ho0, hb, hx0⟩
       refine ⟨_, rfl, ?_⟩
       have HX := Aside0.mk (OwnTo.lower hx0 (below_size qD100)); clear hx0; have n0_ := Aside0.mk (Kd.V_elder' (mVD10 HO0.out) (Kd.N_base ho0) hb); have n1_ := Aside0.mk (Kd.V_elder' (mVD10 HO1_3.out) (Kd.N_base ho0) hb); have n2_ := Aside0.mk (Kd.N_elder' (mND10 HO191.out) (Kd.N_base ho0) hb); have n3_ := Aside0.mk (Kd.N_elder' (mND10 HO194.out) (Kd.N_base ho0) hb)
       have n4_ := Aside0.mk (Kd.N_lower (Kd.N_mono (ok' := fun k_ => ((P0_ k_ ∨ P1_3_ k_) ∨ w.heap.size ≤ k_) ∧ k_ ≠ gb185) ho0 (fun k_ hk_ => ⟨Or.elim hk_ (fun hs_ => hs_.1) (fun hn_ => (.inr (Nat.le_trans (below_size qD100) hn_))), Or.elim hk_ (fun hs_ => hs_.2) (fun hn_ => (Kd.freshB (g := gb185) (o := .cells #[.int .i64 (wrap64 ((l0.length : Int) + 1)), .string a1_1, .int .i64 a1_2, .slice A1_3 l1_3.length c1_3] 43 (0, 0)) qD101 k_ hn_))⟩)) (below_size qD100))
       have n5_ := Aside0.mk (blk_below (g := gb185) (o := .cells #[.int .i64 (wrap64 ((l0.length : Int) + 1)), .string a1_1, .int .i64 a1_2, .slice A1_3 l1_3.length c1_3] 43 (0, 0)) qD101 hb); have n6_ := Aside0.mk (below_step qD100 hb); clear HO0; clear HO1_3; clear HO191; clear HO194; clear BK185; clear HB; have HO0 := n0_; have HO1_3 := n1_; have HO191 := n2_; have HO194 := n3_; have HO197 := n4_; have BK185 := n5_; have HB := n6_; clear n0_ n1_ n2_ n3_ n4_ n5_ n6_
       (try clear hb)
       (try clear hb2)
       (try clear hk)
       (try clear hi)
       (try clear ho0)
       refine hK.out _ _ ⟨(blk_cell BK185.out 0).trans rfl, (blk_cell BK185.out 1).trans rfl, (blk_cell BK185.out 2).trans rfl, (blk_cell BK185.out 3).trans rfl⟩ (fun hHeld => ?_)
       clear hK K
       refine norm_ (a' := ?_) ?_ ?_
       rotate_left
       · show Act.put _ (some 19) _ = _
         simp only [Act.put, List.setIfInBounds_toArray, List.set_cons_zero, List.set_cons_succ, i64_w, i32_w]
         rfl
       refine pure_ (i := 6) (N := some 6) (v := ?_) (a' := ?_) bD108 rfl rfl (by kernel_rfl) (fun _ _ _ h => h) (Or.inl ⟨by rfl, ?_⟩) ?_ ?_
       rotate_left
       · intro w'
         go_simp
         with_reducible rfl
       rotate_left
       · exact qsD100
       refine done_ (by kernel_rfl) ?_
       obtain ⟨Ao22, co22, eo22⟩ := Kd.N_slice HO197.out; subst eo22
       try go_wp2_with (first | ((with_reducible refine gate_callee (f := 21) rfl ?_); refine goesL_ (some 21) rfl rfl Tryd.func21 (by kernel_rfl) rfl #[.slice Ao22 t195.length co22] rfl qD105 ?_; (with_reducible refine (dag_Check.calls k _ _ t195 t198 _ ?side1 ?side2 A8.out ?side3).mono ?_); (case side1 => exact qD108); (case side2 => exact (Kd.N_reads' HO197.out).2.1); (case side3 => exact qD1024); rintro e w23 ⟨rfl, hb⟩; refine ⟨_, rfl, ?_⟩; have nx_ := Aside0.mk (HX.out.below hb); clear HX; have HX := nx_; clear nx_; have n0_ := Aside0.mk (Kd.V_below (mVD10 HO0.out) hb); have n1_ := Aside0.mk (Kd.V_below (mVD10 HO1_3.out) hb); have n2_ := Aside0.mk (Kd.N_below (mND10 HO191.out) hb); have n3_ := Aside0.mk (Kd.N_below (mND10 HO194.out) hb); have n4_ := Aside0.mk (Kd.N_below (mND10 HO197.out) hb); have n5_ := Aside0.mk (blk_below (g := gb185) (o := .cells #[.int .i64 (wrap64 ((l0.length : Int) + 1)), .string a1_1, .int .i64 a1_2, .slice A1_3 l1_3.length c1_3] 43 (0, 0)) qD101 hb); have n6_ := Aside0.mk (below_step qD100 hb); clear HO0; clear HO1_3; clear HO191; clear HO194; clear HO197; clear BK185; clear HB; have HO0 := n0_; have HO1_3 := n1_; have HO191 := n2_; have HO194 := n3_; have HO197 := n4_; have BK185 := n5_; have HB := n6_; clear n0_ n1_ n2_ n3_ n4_ n5_ n6_; (try clear hb); (try clear hb2); (try clear hk); (try clear hi)))
       go_ret2
       exact ⟨_, qD1019, by (with_reducible repeat (first | apply Kd.N_alloc | apply Kd.N_drewN | apply Kd.N_drew)); exact Kd.N_mono HO197.out (fun _ hk => hk.1), qD100, HX.out⟩
     · rw [if_neg c9] at H
       have c9b0 : (t198 == 0) = false := beq_eq_false_iff_ne.mpr c9; have c9b1 : (t198 != 0) = true := bne_iff_ne.mpr c9; simp only [Option.some.injEq, Prod.mk.injEq] at H; obtain ⟨rfl, rfl⟩ := H
       go_enter Tryd.func23, Tryd.ntmps23
       try go_wp2_with (first | ((with_reducible refine gate_dst (N := 3) rfl ?_); refine box_event ?hg (N := 3) ?hd (cs := #[.int .i64 a1_0, .string a1_1, .int .i64 a1_2, .slice A1_3 l1_3.length c1_3]) (t := 43) ?hr ?_; (case hd => rfl); (case hg => rfl); (case hr => exact qD1020); intro gb185 hg w24 hbox hb; have n0_ := Aside0.mk (Kd.V_below (Kd.V_elderB (mVD10 HO0.out) gb185 (Nat.le_of_eq hg.symm)) hb); have n1_ := Aside0.mk (Kd.V_below (Kd.V_elderB (mVD10 HO1_3.out) gb185 (Nat.le_of_eq hg.symm)) hb); have n2_ := Aside0.mk (below_step qD103 hb); have n3_ := Aside0.mk (hbox); have n4_ := Aside0.mk ((by rw [hg]; exact (below_size qD103) : w.heap.size ≤ gb185)); have n5_ := Aside0.mk ((by rw [hg]; exact (below_size qD103) : w.heap.size ≤ gb185)); clear HO0; clear HO1_3; clear HB; have HO0 := n0_; have HO1_3 := n1_; have HB := n2_; have BK185 := n3_; have GW185 := n4_; have GE185 := n5_; clear n0_ n1_ n2_ n3_ n4_ n5_; clear hb hbox hg; have hcz25_0 : w24.cell? ⟨gb185, 0, none⟩ = some (.int .i64 a1_0) := (blk_cell BK185.out 0).trans rfl; have hcz25_1 : w24.cell? ⟨gb185, 1, none⟩ = some (.string a1_1) := (blk_cell BK185.out 1).trans rfl; have hcz25_2 : w24.cell? ⟨gb185, 2, none⟩ = some (.int .i64 a1_2) := (blk_cell BK185.out 2).trans rfl; have hcz25_3 : w24.cell? ⟨gb185, 3, none⟩ = some (.slice A1_3 l1_3.length c1_3) := (blk_cell BK185.out 3).trans rfl; have hfz25_0 := blk_frozen BK185.out 0; have hfz25_1 := blk_frozen BK185.out 1; have hfz25_2 := blk_frozen BK185.out 2; have hfz25_3 := blk_frozen BK185.out 3))
       have n0_ : Aside0 (Kd.V k43 43 (w24.setCell ⟨gb185, 0, none⟩ (.int .i64 (wrap64 ((l0.length : Int) + 1)))) w.heap.size (fun k_ => ((P0_ k_ ∨ P1_3_ k_) ∨ w.heap.size ≤ k_) ∧ k_ ≠ gb185) (.slice A0 l0.length c0) l0) := ⟨by (with_reducible repeat (first | apply Kd.V_alloc | apply Kd.V_drewN | apply Kd.V_drew)); exact Kd.V_mono (Kd.V_far (p := ⟨gb185, 0, none⟩) (Kd.V_mono HO0.out (fun k_ hk => (⟨hk, hk.2⟩ : _ ∧ k_ ≠ gb185))) (fun _ hk => hk.2) (.int .i64 (wrap64 ((l0.length : Int) + 1)))) (fun _ hk => ⟨hk.1.1, hk.1.2⟩)⟩
       have n1_ : Aside0 (Kd.V (Kd.int .i64) 3 (w24.setCell ⟨gb185, 0, none⟩ (.int .i64 (wrap64 ((l0.length : Int) + 1)))) w.heap.size (fun k_ => ((P0_ k_ ∨ P1_3_ k_) ∨ w.heap.size ≤ k_) ∧ k_ ≠ gb185) (.slice A1_3 l1_3.length c1_3) l1_3) := ⟨by (with_reducible repeat (first | apply Kd.V_alloc | apply Kd.V_drewN | apply Kd.V_drew)); exact Kd.V_mono (Kd.V_far (p := ⟨gb185, 0, none⟩) (Kd.V_mono HO1_3.out (fun k_ hk => (⟨hk, hk.2⟩ : _ ∧ k_ ≠ gb185))) (fun _ hk => hk.2) (.int .i64 (wrap64 ((l0.length : Int) + 1)))) (fun _ hk => ⟨hk.1.1, hk.1.2⟩)⟩
       have n2_ : Aside0 ((w24.setCell ⟨gb185, 0, none⟩ (.int .i64 (wrap64 ((l0.length : Int) + 1)))).heap[gb185]? = some (.cells #[.int .i64 (wrap64 ((l0.length : Int) + 1)), .string a1_1, .int .i64 a1_2, .slice A1_3 l1_3.length c1_3] 43 (0, 0))) := ⟨by (with_reducible repeat (first | refine blk_drewN ?_ _ | refine blk_drew ?_ | refine blk_alloc ?_ _)); refine blk_put (cs := #[.int .i64 a1_0, .string a1_1, .int .i64 a1_2, .slice A1_3 l1_3.length c1_3]) ?_ 0 _ qD1022; (with_reducible repeat (first | refine blk_drewN ?_ _ | refine blk_drew ?_ | refine blk_alloc ?_ _)); exact BK185.out⟩; have n3_ : Aside0 (Below w.heap.size w (w24.setCell ⟨gb185, 0, none⟩ (.int .i64 (wrap64 ((l0.length : Int) + 1))))) := ⟨qD100⟩
       (try clear HO0)
       (try clear HO1_3)
       (try clear BK185)
       (try clear HB)
       generalize (w24.setCell ⟨gb185, 0, none⟩ (.int .i64 (wrap64 ((l0.length : Int) + 1)))) = w26 at n0_ n1_ n2_ n3_ ⊢
       have HO0 := n0_; have HO1_3 := n1_; have BK185 := n2_; have HB := n3_; clear n0_ n1_ n2_ n3_; have n0_ := Aside0.mk (Kd.V_drew HO0.out); have n1_ := Aside0.mk (Kd.V_drew HO1_3.out); have n2_ := Aside0.mk (blk_drew BK185.out); have n3_ := Aside0.mk (below_drew1 HB.out); clear HO0; clear HO1_3; clear BK185; clear HB; have HO0 := n0_; have HO1_3 := n1_; have BK185 := n2_; have HB := n3_; clear n0_ n1_ n2_ n3_
       refine start_ (n := 7) (S := fun w' => w'.cell? ⟨gb185, 0, none⟩ = some (.int .i64 (wrap64 ((l0.length : Int) + 1))) ∧ w'.cell? ⟨gb185, 1, none⟩ = some (.string a1_1) ∧ w'.cell? ⟨gb185, 2, none⟩ = some (.int .i64 a1_2) ∧ w'.cell? ⟨gb185, 3, none⟩ = some (.slice A1_3 l1_3.length c1_3)) (ds := []) bD100 (by kernel_rfl) rfl rfl ⟨(blk_cell BK185.out 0).trans rfl, (blk_cell BK185.out 1).trans rfl, (blk_cell BK185.out 2).trans rfl, (blk_cell BK185.out 3).trans rfl⟩ (fun hHeld => ?_)
       generalize w26.drew = w27 at HO0 HO1_3 BK185 HB hHeld ⊢
       refine pure_ (i := 0) (N := some 14) (v := ?_) (a' := ?_) bD101 rfl rfl (by kernel_rfl) (fun _ _ _ h => h) (Or.inl ⟨by rfl, ?_⟩) ?_ ?_
       rotate_left
       · intro w'
         go_simp
         with_reducible rfl
       rotate_left
       · exact qsD100
       refine take_ (i := 2) (N := some 16) (v := ?_) (a' := ?_) bD102 rfl rfl (by kernel_rfl) (fun _ _ _ h => h) (Or.inl ⟨by rfl, ?_⟩) hHeld ?_ ?_
       rotate_left
       · rintro w' ⟨s0, s1, s2, s3⟩
         go_simp
         with_reducible rfl
       rotate_left
       · exact qsD100
       refine join_ (σ := Value × Value) 3 bD103 (fun s_ => [(15, s_.1), (17, s_.2)]) (fun s_ w' => (w'.cell? ⟨gb185, 0, none⟩ = some (.int .i64 (wrap64 ((l0.length : Int) + 1))) ∧ w'.cell? ⟨gb185, 1, none⟩ = some (.string a1_1) ∧ w'.cell? ⟨gb185, 2, none⟩ = some (.int .i64 a1_2) ∧ w'.cell? ⟨gb185, 3, none⟩ = some (.slice A1_3 l1_3.length c1_3)) ∧ (Kd.V k43 43 w' w.heap.size (fun k_ => ((P0_ k_ ∨ P1_3_ k_) ∨ w.heap.size ≤ k_) ∧ some k_ ≠ (s_.1 : Value).ownBlock ∧ some k_ ≠ (s_.2 : Value).ownBlock ∧ k_ ≠ gb185) (.slice A0 l0.length c0) l0) ∧ (Kd.N k43 43 w' w.heap.size (fun k_ => ((P0_ k_ ∨ P1_3_ k_) ∨ w.heap.size ≤ k_) ∧ some k_ ≠ (s_.2 : Value).ownBlock ∧ k_ ≠ gb185) s_.1 t186) ∧ (Kd.N k43 43 w' w.heap.size (fun k_ => ((P0_ k_ ∨ P1_3_ k_) ∨ w.heap.size ≤ k_) ∧ some k_ ≠ (s_.1 : Value).ownBlock ∧ k_ ≠ gb185) s_.2 y189) ∧ (Kd.V (Kd.int .i64) 3 w' w.heap.size (fun k_ => ((P0_ k_ ∨ P1_3_ k_) ∨ w.heap.size ≤ k_) ∧ some k_ ≠ (s_.1 : Value).ownBlock ∧ some k_ ≠ (s_.2 : Value).ownBlock ∧ k_ ≠ gb185) (.slice A1_3 l1_3.length c1_3) l1_3) ∧ (w'.heap[gb185]? = some (.cells #[.int .i64 (wrap64 ((l0.length : Int) + 1)), .string a1_1, .int .i64 a1_2, .slice A1_3 l1_3.length c1_3] 43 (0, 0))) ∧ (Below w.heap.size w w')) ?_ ?_
       rotate_left
       · intro hCont
         refine two_ (i := 1) (j := 3) (Ni := some 15) (Nj := some 17) bD104 bD105 rfl rfl rfl rfl (by kernel_rfl) (by decide) (by decide) (fun K hK => ?_) (fun K hK => ?_)
         · skip
           refine goes_ Tryd.func37 (by kernel_rfl) rfl #[.slice A0 l0.length c0] (by rfl) rfl rfl qD105 ?_
           with_reducible refine (dag_Rev.calls (fun k_ => (((P0_ k_ ∨ P1_3_ k_) ∨ w.heap.size ≤ k_) ∧ k_ ≠ gb185)) _ _ l0 t186 _ ?side1 A5.out ?side2).mono ?_
           (case side1 => exact HO0.out)
           (case side2 => exact qD1024)
           rintro e w28 ⟨v187, rfl, ho0, hb⟩
           refine ⟨_, rfl, ?_⟩
           have n0_ := Aside0.mk (Kd.V_elder' (mVD10 HO0.out) (Kd.N_base ho0) hb); have n1_ := Aside0.mk (Kd.V_elder' (mVD10 HO1_3.out) (Kd.N_base ho0) hb)
           have n2_ := Aside0.mk (Kd.N_lower (Kd.N_mono (ok' := fun k_ => ((P0_ k_ ∨ P1_3_ k_) ∨ w.heap.size ≤ k_) ∧ k_ ≠ gb185) ho0 (fun k_ hk_ => ⟨Or.elim hk_ (fun hs_ => hs_.1) (fun hn_ => (.inr (Nat.le_trans (below_size qD100) hn_))), Or.elim hk_ (fun hs_ => hs_.2) (fun hn_ => (Kd.freshB (g := gb185) (o := .cells #[.int .i64 (wrap64 ((l0.length : Int) + 1)), .string a1_1, .int .i64 a1_2, .slice A1_3 l1_3.length c1_3] 43 (0, 0)) qD101 k_ hn_))⟩)) (below_size qD100))
           have n3_ := Aside0.mk (blk_below (g := gb185) (o := .cells #[.int .i64 (wrap64 ((l0.length : Int) + 1)), .string a1_1, .int .i64 a1_2, .slice A1_3 l1_3.length c1_3] 43 (0, 0)) qD101 hb); have n4_ := Aside0.mk (below_step qD100 hb); clear HO0; clear HO1_3; clear BK185; clear HB; have HO0 := n0_; have HO1_3 := n1_; have HO188 := n2_; have BK185 := n3_; have HB := n4_; clear n0_ n1_ n2_ n3_ n4_
           (try clear hb)
           (try clear hb2)
           (try clear hk)
           (try clear hi)
           (try clear ho0)
           refine hK.out _ _ ⟨(blk_cell BK185.out 0).trans rfl, (blk_cell BK185.out 1).trans rfl, (blk_cell BK185.out 2).trans rfl, (blk_cell BK185.out 3).trans rfl⟩ (fun hHeld => ?_)
           clear hK K
           refine norm_ (a' := ?_) ?_ ?_
           rotate_left
           · show Act.put _ (some 15) _ = _
             simp only [Act.put, List.setIfInBounds_toArray, List.set_cons_zero, List.set_cons_succ, i64_w, i32_w]
             rfl
           refine one_ (i := 3) (N := some 17) bD103 rfl rfl (by kernel_rfl) (by decide) (fun K hK => ?_)
           refine Kd.N_lit_step k43 _ 43 ?hg (N' := 17) ?hd (xs := ([(⟨wrap64 ((l0.length : Int) + 1), a1_1, a1_2, l1_3⟩ : S43)] : List (S43))) (inner := [.int .i64 (wrap64 ((l0.length : Int) + 1)), .string a1_1, .int .i64 a1_2, .slice A1_3 l1_3.length c1_3]) (ok := (fun k_ => ((P0_ k_ ∨ P1_3_ k_) ∨ w.heap.size ≤ k_) ∧ some k_ ≠ (v187 : Value).ownBlock ∧ k_ ≠ gb185)) (okp := (fun k_ => ((P0_ k_ ∨ P1_3_ k_) ∨ w.heap.size ≤ k_) ∧ some k_ ≠ (v187 : Value).ownBlock ∧ k_ ≠ gb185)) ?hr ?hp (fun _ hk => hk) ((show ∀ k_, w28.heap.size ≤ k_ → (fun k_ => ((P0_ k_ ∨ P1_3_ k_) ∨ w.heap.size ≤ k_) ∧ some k_ ≠ (v187 : Value).ownBlock ∧ k_ ≠ gb185) k_ from fun k_ hk => ⟨(.inr (Nat.le_trans (below_size qD100) hk)), Kd.fresh' (Kd.N_lt (mND10 HO188.out)) k_ hk, Kd.freshB (g := gb185) (o := .cells #[.int .i64 (wrap64 ((l0.length : Int) + 1)), .string a1_1, .int .i64 a1_2, .slice A1_3 l1_3.length c1_3] 43 (0, 0)) qD101 k_ hk⟩) _ (Nat.le_refl _)) (Below.refl _ _) (Nat.le_refl _) (by simp) ?_; (case hd => rfl); (case hg => rfl); (case hr => exact qD1020); (case hp => exact qD102)
           intro v190 w29 ho30 hb hg_ hnew_
           clear hg_ hnew_
           (first | rw [← Ny189.out] at ho30 | (simp only [Int.reduceToNat] at ho30; rw [← Ny189.out] at ho30))
           have n0_ := Aside0.mk (Kd.V_elder' (mVD10 HO0.out) (Kd.N_base ho30) hb); have n1_ := Aside0.mk (Kd.V_elder' (mVD10 HO1_3.out) (Kd.N_base ho30) hb); have n2_ := Aside0.mk (Kd.N_elder' (mND10 HO188.out) (Kd.N_base ho30) hb); have n3_ := Aside0.mk (Kd.N_lower ho30 (below_size qD100)); have n4_ := Aside0.mk (blk_below (g := gb185) (o := .cells #[.int .i64 (wrap64 ((l0.length : Int) + 1)), .string a1_1, .int .i64 a1_2, .slice A1_3 l1_3.length c1_3] 43 (0, 0)) qD101 hb); have n5_ := Aside0.mk (below_step qD100 hb); clear HO0; clear HO1_3; clear HO188; clear BK185; clear HB; have HO0 := n0_; have HO1_3 := n1_; have HO188 := n2_; have HO191 := n3_; have BK185 := n4_; have HB := n5_; clear n0_ n1_ n2_ n3_ n4_ n5_; clear hb ho30
           refine hK.out _ _ ⟨(blk_cell BK185.out 0).trans rfl, (blk_cell BK185.out 1).trans rfl, (blk_cell BK185.out 2).trans rfl, (blk_cell BK185.out 3).trans rfl⟩ (fun hHeld => ?_)
           clear hK K
           refine norm_ (a' := ?_) ?_ ?_
           rotate_left
           · show Act.put _ (some 17) _ = _
             simp only [Act.put, List.setIfInBounds_toArray, List.set_cons_zero, List.set_cons_succ, i64_w, i32_w]
             rfl
           exact norm_ qD107 (hCont (v187, v190) _ ⟨hHeld, qD1012, qD1016, (mND10 HO191.out), qD109, qD101, qD100⟩)
         · skip
           refine Kd.N_lit_step k43 _ 43 ?hg (N' := 17) ?hd (xs := ([(⟨wrap64 ((l0.length : Int) + 1), a1_1, a1_2, l1_3⟩ : S43)] : List (S43))) (inner := [.int .i64 (wrap64 ((l0.length : Int) + 1)), .string a1_1, .int .i64 a1_2, .slice A1_3 l1_3.length c1_3]) (ok := (fun k_ => ((P0_ k_ ∨ P1_3_ k_) ∨ w.heap.size ≤ k_) ∧ k_ ≠ gb185)) (okp := (fun k_ => ((P0_ k_ ∨ P1_3_ k_) ∨ w.heap.size ≤ k_) ∧ k_ ≠ gb185)) ?hr ?hp (fun _ hk => hk) ((show ∀ k_, w27.heap.size ≤ k_ → (fun k_ => ((P0_ k_ ∨ P1_3_ k_) ∨ w.heap.size ≤ k_) ∧ k_ ≠ gb185) k_ from fun k_ hk => ⟨(.inr (Nat.le_trans (below_size qD100) hk)), Kd.freshB (g := gb185) (o := .cells #[.int .i64 (wrap64 ((l0.length : Int) + 1)), .string a1_1, .int .i64 a1_2, .slice A1_3 l1_3.length c1_3] 43 (0, 0)) qD101 k_ hk⟩) _ (Nat.le_refl _)) (Below.refl _ _) (Nat.le_refl _) (by simp) ?_; (case hd => rfl); (case hg => rfl); (case hr => exact qD1020); (case hp => exact qD104)
           intro v190 w28 ho29 hb hg_ hnew_
           clear hg_ hnew_
           (first | rw [← Ny189.out] at ho29 | (simp only [Int.reduceToNat] at ho29; rw [← Ny189.out] at ho29))
           have n0_ := Aside0.mk (Kd.V_elder' (mVD10 HO0.out) (Kd.N_base ho29) hb); have n1_ := Aside0.mk (Kd.V_elder' (mVD10 HO1_3.out) (Kd.N_base ho29) hb); have n2_ := Aside0.mk (Kd.N_lower ho29 (below_size qD100)); have n3_ := Aside0.mk (blk_below (g := gb185) (o := .cells #[.int .i64 (wrap64 ((l0.length : Int) + 1)), .string a1_1, .int .i64 a1_2, .slice A1_3 l1_3.length c1_3] 43 (0, 0)) qD101 hb); have n4_ := Aside0.mk (below_step qD100 hb); clear HO0; clear HO1_3; clear BK185; clear HB; have HO0 := n0_; have HO1_3 := n1_; have HO191 := n2_; have BK185 := n3_; have HB := n4_; clear n0_ n1_ n2_ n3_ n4_; clear hb ho29
           refine hK.out _ _ ⟨(blk_cell BK185.out 0).trans rfl, (blk_cell BK185.out 1).trans rfl, (blk_cell BK185.out 2).trans rfl, (blk_cell BK185.out 3).trans rfl⟩ (fun hHeld => ?_)
           clear hK K
           refine norm_ (a' := ?_) ?_ ?_
           rotate_left
           · show Act.put _ (some 17) _ = _
             simp only [Act.put, List.setIfInBounds_toArray, List.set_cons_zero, List.set_cons_succ, i64_w, i32_w]
             rfl
           refine one_ (i := 1) (N := some 15) bD103 rfl rfl (by kernel_rfl) (by decide) (fun K hK => ?_)
           refine goes_ Tryd.func37 (by kernel_rfl) rfl #[.slice A0 l0.length c0] (by rfl) rfl rfl qD105 ?_
           with_reducible refine (dag_Rev.calls (fun k_ => ((((P0_ k_ ∨ P1_3_ k_) ∨ w.heap.size ≤ k_) ∧ k_ ≠ gb185) ∧ some k_ ≠ (v190 : Value).ownBlock)) _ _ l0 t186 _ ?side1 A5.out ?side2).mono ?_
           (case side1 => exact HO0.out)
           (case side2 => exact qD1024)
           rintro e w30 ⟨v187, rfl, ho0, hb⟩
           refine ⟨_, rfl, ?_⟩
           have n0_ := Aside0.mk (Kd.V_elder' (mVD10 HO0.out) (Kd.N_base ho0) hb); have n1_ := Aside0.mk (Kd.V_elder' (mVD10 HO1_3.out) (Kd.N_base ho0) hb); have n2_ := Aside0.mk (Kd.N_elder' (mND10 HO191.out) (Kd.N_base ho0) hb)
           have n3_ := Aside0.mk (Kd.N_lower (Kd.N_mono (ok' := fun k_ => ((P0_ k_ ∨ P1_3_ k_) ∨ w.heap.size ≤ k_) ∧ some k_ ≠ (v190 : Value).ownBlock ∧ k_ ≠ gb185) ho0 (fun k_ hk_ => ⟨Or.elim hk_ (fun hs_ => hs_.1.1) (fun hn_ => (.inr (Nat.le_trans (below_size qD100) hn_))), Or.elim hk_ (fun hs_ => hs_.2) (fun hn_ => (Kd.fresh' (Kd.N_lt (mND10 HO191.out)) k_ hn_)), Or.elim hk_ (fun hs_ => hs_.1.2) (fun hn_ => (Kd.freshB (g := gb185) (o := .cells #[.int .i64 (wrap64 ((l0.length : Int) + 1)), .string a1_1, .int .i64 a1_2, .slice A1_3 l1_3.length c1_3] 43 (0, 0)) qD101 k_ hn_))⟩)) (below_size qD100))
           have n4_ := Aside0.mk (blk_below (g := gb185) (o := .cells #[.int .i64 (wrap64 ((l0.length : Int) + 1)), .string a1_1, .int .i64 a1_2, .slice A1_3 l1_3.length c1_3] 43 (0, 0)) qD101 hb); have n5_ := Aside0.mk (below_step qD100 hb); clear HO0; clear HO1_3; clear HO191; clear BK185; clear HB; have HO0 := n0_; have HO1_3 := n1_; have HO191 := n2_; have HO188 := n3_; have BK185 := n4_; have HB := n5_; clear n0_ n1_ n2_ n3_ n4_ n5_
           (try clear hb)
           (try clear hb2)
           (try clear hk)
           (try clear hi)
           (try clear ho0)
           refine hK.out _ _ ⟨(blk_cell BK185.out 0).trans rfl, (blk_cell BK185.out 1).trans rfl, (blk_cell BK185.out 2).trans rfl, (blk_cell BK185.out 3).trans rfl⟩ (fun hHeld => ?_)
           clear hK K
           refine norm_ (a' := ?_) ?_ ?_
           rotate_left
           · show Act.put _ (some 15) _ = _
             simp only [Act.put, List.setIfInBounds_toArray, List.set_cons_zero, List.set_cons_succ, i64_w, i32_w]
             rfl
           exact norm_ qD107 (hCont (v187, v190) _ ⟨hHeld, qD1013, (mND10 HO188.out), qD1017, qD1010, qD101, qD100⟩)
       rintro ⟨v187, v190⟩ w31 ⟨hS_, h0_, h1_, h2_, h3_, h4_, h5_⟩
       have n0_ : Aside0 (Kd.V k43 43 w31 w.heap.size (fun k_ => ((P0_ k_ ∨ P1_3_ k_) ∨ w.heap.size ≤ k_) ∧ some k_ ≠ (v187 : Value).ownBlock ∧ some k_ ≠ (v190 : Value).ownBlock ∧ k_ ≠ gb185) (.slice A0 l0.length c0) l0) := ⟨h0_⟩
       have n1_ : Aside0 (Kd.N k43 43 w31 w.heap.size (fun k_ => ((P0_ k_ ∨ P1_3_ k_) ∨ w.heap.size ≤ k_) ∧ some k_ ≠ (v190 : Value).ownBlock ∧ k_ ≠ gb185) v187 t186) := ⟨h1_⟩
       have n2_ : Aside0 (Kd.N k43 43 w31 w.heap.size (fun k_ => ((P0_ k_ ∨ P1_3_ k_) ∨ w.heap.size ≤ k_) ∧ some k_ ≠ (v187 : Value).ownBlock ∧ k_ ≠ gb185) v190 y189) := ⟨h2_⟩
       have n3_ : Aside0 (Kd.V (Kd.int .i64) 3 w31 w.heap.size (fun k_ => ((P0_ k_ ∨ P1_3_ k_) ∨ w.heap.size ≤ k_) ∧ some k_ ≠ (v187 : Value).ownBlock ∧ some k_ ≠ (v190 : Value).ownBlock ∧ k_ ≠ gb185) (.slice A1_3 l1_3.length c1_3) l1_3) := ⟨h3_⟩
       have n4_ : Aside0 (w31.heap[gb185]? = some (.cells #[.int .i64 (wrap64 ((l0.length : Int) + 1)), .string a1_1, .int .i64 a1_2, .slice A1_3 l1_3.length c1_3] 43 (0, 0))) := ⟨h4_⟩; have n5_ : Aside0 (Below w.heap.size w w31) := ⟨h5_⟩; clear HO0; clear HO1_3; clear BK185; clear HB; clear h0_ h1_ h2_ h3_ h4_ h5_; have HO0 := n0_; have HO188 := n1_; have HO191 := n2_; have HO1_3 := n3_; have BK185 := n4_; have HB := n5_; clear n0_ n1_ n2_ n3_ n4_ n5_; have hHeld : w31.cell? ⟨gb185, 0, none⟩ = some (.int .i64 (wrap64 ((l0.length : Int) + 1))) ∧ w31.cell? ⟨gb185, 1, none⟩ = some (.string a1_1) ∧ w31.cell? ⟨gb185, 2, none⟩ = some (.int .i64 a1_2) ∧ w31.cell? ⟨gb185, 3, none⟩ = some (.slice A1_3 l1_3.length c1_3) := hS_; obtain ⟨Ao33, co33, eo33⟩ := Kd.N_slice HO191.out
       (first | subst eo33 | (injection eo33 with f1_ f2_ f3_; have f4_ := f1_.symm; have f5_ := f3_.symm; clear f1_ f2_ f3_; subst f4_; subst f5_))
       refine norm_ (a' := ?_) ?_ ?_
       rotate_left
       · simp only [putAll, Act.put, List.setIfInBounds_toArray, List.set_cons_zero, List.set_cons_succ]
         rfl
       refine one_ (i := 4) (N := some 18) bD106 rfl rfl (by kernel_rfl) (by decide) (fun K hK => ?_)
       refine Kd.N_append_rows_step k43 (w0 := w) w.heap.size (by rfl) (.tmp 15) (.tmp 17) 22 43 (.agg #[(.int .i64 0), (.string ⟨#[]⟩), (.int .i64 0), (.slice none 0 0)]) 56 rfl Tryd.underlying22 info43 rfl (by decide) (by omega) v187 t186 y189 _ _ _ (fun k_ => ((P0_ k_ ∨ P1_3_ k_) ∨ w.heap.size ≤ k_) ∧ k_ ≠ gb185) (fun k_ => ((fun k_ => ((P0_ k_ ∨ P1_3_ k_) ∨ w.heap.size ≤ k_) ∧ k_ ≠ gb185)) k_ ∧ some k_ ≠ (v187 : Value).ownBlock) rfl rfl ?aO ?aR (fun _ hk => hk) ?aF ?aB ?aS ?aL ?_
       (case aR => exact qD106)
       (case aB => exact qD100)
       (case aF => exact qD1023)
       (case aO => exact qD1015)
       (case aS => exact (below_size qD100))
       (case aL => have := LMc6.out; omega)
       intro v193 w32 ho hb hg hat
       rw [← Ny192.out] at ho
       have n0_ := Aside0.mk (Kd.V_afterv (ok := (fun k_ => ((P0_ k_ ∨ P1_3_ k_) ∨ w.heap.size ≤ k_) ∧ some k_ ≠ (.slice Ao33 y189.length co33 : Value).ownBlock ∧ k_ ≠ gb185)) qD1014 hg hat)
       have n1_ := Aside0.mk (Kd.V_afterv (ok := (fun k_ => ((P0_ k_ ∨ P1_3_ k_) ∨ w.heap.size ≤ k_) ∧ some k_ ≠ (.slice Ao33 y189.length co33 : Value).ownBlock ∧ k_ ≠ gb185)) qD1011 hg hat)
       have n2_ := Aside0.mk (blk_grown (g := gb185) (o := .cells #[.int .i64 (wrap64 ((l0.length : Int) + 1)), .string a1_1, .int .i64 a1_2, .slice A1_3 l1_3.length c1_3] 43 (0, 0)) qD101 hg (Kd.N_away HO188.out (fun _ hk => hk.2.2)))
       have n3_ := Aside0.mk (Kd.N_afterv (ok := (fun k_ => ((P0_ k_ ∨ P1_3_ k_) ∨ w.heap.size ≤ k_) ∧ k_ ≠ gb185)) qD1018 hg hat)
       have n4_ := Aside0.mk (hb); have n5_ := Aside0.mk (ho); clear HO0; clear HO1_3; clear BK185; clear HO191; clear HB; clear HO188; have HO0 := n0_; have HO1_3 := n1_; have BK185 := n2_; have HO191 := n3_; have HB := n4_; have HO194 := n5_; clear n0_ n1_ n2_ n3_ n4_ n5_; clear ho hb hg hat; obtain ⟨Ao34, co34, eo34⟩ := Kd.N_slice HO194.out
       (first | subst eo34 | (injection eo34 with f1_ f2_ f3_; have f4_ := f1_.symm; have f5_ := f3_.symm; clear f1_ f2_ f3_; subst f4_; subst f5_))
       refine hK.out _ _ ⟨(blk_cell BK185.out 0).trans rfl, (blk_cell BK185.out 1).trans rfl, (blk_cell BK185.out 2).trans rfl, (blk_cell BK185.out 3).trans rfl⟩ (fun hHeld => ?_)
       clear hK K
       refine norm_ (a' := ?_) ?_ ?_
       rotate_left
       · show Act.put _ (some 18) _ = _
         simp only [Act.put, List.setIfInBounds_toArray, List.set_cons_zero, List.set_cons_succ, i64_w, i32_w]
         rfl
       refine one_ (i := 5) (N := some 19) bD107 rfl rfl (by kernel_rfl) (by decide) (fun K hK => ?_)
       refine goes_ Tryd.func36 (by kernel_rfl) rfl #[.slice Ao34 y192.length co34] (by rfl) rfl rfl qD105 ?_
       with_reducible refine (dag_copied.calls k (fun k_ => (((P0_ k_ ∨ P1_3_ k_) ∨ w.heap.size ≤ k_) ∧ k_ ≠ gb185)) _ _ y192 t195 _ ?side1 A7.out ?side2).mono ?_
       (case side1 => exact Kd.N_V (HO194.out))
       (case side2 => exact qD1024)
       rintro e w35 ⟨v196, rfl, ho0, hb⟩
       refine ⟨_, rfl, ?_⟩
       have n0_ := Aside0.mk (Kd.V_elder' (mVD10 HO0.out) (Kd.N_base ho0) hb); have n1_ := Aside0.mk (Kd.V_elder' (mVD10 HO1_3.out) (Kd.N_base ho0) hb); have n2_ := Aside0.mk (Kd.N_elder' (mND10 HO191.out) (Kd.N_base ho0) hb); have n3_ := Aside0.mk (Kd.N_elder' (mND10 HO194.out) (Kd.N_base ho0) hb)
       have n4_ := Aside0.mk (Kd.N_lower (Kd.N_mono (ok' := fun k_ => ((P0_ k_ ∨ P1_3_ k_) ∨ w.heap.size ≤ k_) ∧ k_ ≠ gb185) ho0 (fun k_ hk_ => ⟨Or.elim hk_ (fun hs_ => hs_.1) (fun hn_ => (.inr (Nat.le_trans (below_size qD100) hn_))), Or.elim hk_ (fun hs_ => hs_.2) (fun hn_ => (Kd.freshB (g := gb185) (o := .cells #[.int .i64 (wrap64 ((l0.length : Int) + 1)), .string a1_1, .int .i64 a1_2, .slice A1_3 l1_3.length c1_3] 43 (0, 0)) qD101 k_ hn_))⟩)) (below_size qD100))
       have n5_ := Aside0.mk (blk_below (g := gb185) (o := .cells #[.int .i64 (wrap64 ((l0.length : Int) + 1)), .string a1_1, .int .i64 a1_2, .slice A1_3 l1_3.length c1_3] 43 (0, 0)) qD101 hb); have n6_ := Aside0.mk (below_step qD100 hb); clear HO0; clear HO1_3; clear HO191; clear HO194; clear BK185; clear HB; have HO0 := n0_; have HO1_3 := n1_; have HO191 := n2_; have HO194 := n3_; have HO197 := n4_; have BK185 := n5_; have HB := n6_; clear n0_ n1_ n2_ n3_ n4_ n5_ n6_
       (try clear hb)
       (try clear hb2)
       (try clear hk)
       (try clear hi)
       (try clear ho0)
       refine hK.out _ _ ⟨(blk_cell BK185.out 0).trans rfl, (blk_cell BK185.out 1).trans rfl, (blk_cell BK185.out 2).trans rfl, (blk_cell BK185.out 3).trans rfl⟩ (fun hHeld => ?_)
       clear hK K
       refine norm_ (a' := ?_) ?_ ?_
       rotate_left
       · show Act.put _ (some 19) _ = _
         simp only [Act.put, List.setIfInBounds_toArray, List.set_cons_zero, List.set_cons_succ, i64_w, i32_w]
         rfl
       refine pure_ (i := 6) (N := some 6) (v := ?_) (a' := ?_) bD108 rfl rfl (by kernel_rfl) (fun _ _ _ h => h) (Or.inl ⟨by rfl, ?_⟩) ?_ ?_
       rotate_left
       · intro w'
         go_simp
         with_reducible rfl
       rotate_left
       · exact qsD100
       refine done_ (by kernel_rfl) ?_
       obtain ⟨Ao36, co36, eo36⟩ := Kd.N_slice HO197.out; subst eo36
       try go_wp2_with (first | ((with_reducible refine gate_callee (f := 21) rfl ?_); refine goesL_ (some 21) rfl rfl Tryd.func21 (by kernel_rfl) rfl #[.slice Ao36 t195.length co36] rfl qD105 ?_; (with_reducible refine (dag_Check.calls k _ _ t195 t198 _ ?side1 ?side2 A8.out ?side3).mono ?_); (case side1 => exact qD108); (case side2 => exact (Kd.N_reads' HO197.out).2.1); (case side3 => exact qD1024); rintro e w37 ⟨rfl, hb⟩; refine ⟨_, rfl, ?_⟩; have n0_ := Aside0.mk (Kd.V_below (mVD10 HO0.out) hb); have n1_ := Aside0.mk (Kd.V_below (mVD10 HO1_3.out) hb); have n2_ := Aside0.mk (Kd.N_below (mND10 HO191.out) hb); have n3_ := Aside0.mk (Kd.N_below (mND10 HO194.out) hb); have n4_ := Aside0.mk (Kd.N_below (mND10 HO197.out) hb); have n5_ := Aside0.mk (blk_below (g := gb185) (o := .cells #[.int .i64 (wrap64 ((l0.length : Int) + 1)), .string a1_1, .int .i64 a1_2, .slice A1_3 l1_3.length c1_3] 43 (0, 0)) qD101 hb); have n6_ := Aside0.mk (below_step qD100 hb); clear HO0; clear HO1_3; clear HO191; clear HO194; clear HO197; clear BK185; clear HB; have HO0 := n0_; have HO1_3 := n1_; have HO191 := n2_; have HO194 := n3_; have HO197 := n4_; have BK185 := n5_; have HB := n6_; clear n0_ n1_ n2_ n3_ n4_ n5_ n6_; (try clear hb); (try clear hb2); (try clear hk); (try clear hi)))
       go_ret2
       exact ⟨_, qD1019, qD1021, qD100, OwnTo.zero _ _ _ _⟩
   · rw [if_neg c6] at H
     exact absurd H (by simp)

end Go.Proofs.YtgopimjfoppkmaaDoor.D
