/- Printed functions, each with a proof that the call answers so. -/
import Derived.Test.YtgopimjfoppkmaaDoorD0
import Derived.Test.YtgopimjfoppkmaaDoorD8
import Derived.Test.YtgopimjfoppkmaaDoorDMarks
namespace Go.Proofs.YtgopimjfoppkmaaDoor.D
open Go.RowKit Go.Proofs.YtgopimjfoppkmaaDoorW.PrintWords Go.Proofs.YtgopimjfoppkmaaDoorW.PrintLast Go.Proofs.YtgopimjfoppkmaaDoorW.PrintMore
attribute [local go_sem] max2_int min2_int max_two min_two max_three min_three max_four min_four   -- for this text's walks alone
set_option linter.unusedVariables false
set_option linter.unusedSimpArgs false

-- by hand: recto/dag.marks

theorem mRD9 {p q : Prop} (x : q) (h : q → p := by intro x_; (with_reducible repeat (first | apply Kd.R_alloc | apply Kd.R_drewN | apply Kd.R_drew)); exact x_) : p := h x
theorem mND9 {p q : Prop} (x : q) (h : q → p := by intro x_; (with_reducible repeat (first | apply Kd.N_alloc | apply Kd.N_drewN | apply Kd.N_drew)); exact x_) : p := h x
theorem mVD9 {p q : Prop} (x : q) (h : q → p := by intro x_; (with_reducible repeat (first | apply Kd.V_alloc | apply Kd.V_drewN | apply Kd.V_drew)); exact x_) : p := h x
theorem qD90 {p : Prop} (h : p := by repeat (first | (with_reducible first | exact HB.out | apply below_alloc | apply pw_below_drewN | apply below_drew1) | exact HB.out)) : p := h
theorem qD91 {p : Prop} (h : p := by first | (with_reducible assumption) | assumption) : p := h
theorem qD92 {p : Prop} (h : p := by (try simp only [List.map_toArray, List.map_cons, List.map_nil]); first | done | rfl | (simp only [List.length_drop, List.length_take]; rfl)) : p := h
theorem qD93 {p : Prop} (h : p := by repeat (first | exact (Kd.C_below HR0.out HB.out) | (with_reducible refine Kd.C_alloc ?_ _) | (with_reducible refine Kd.C_drewN ?_ _) | (with_reducible refine Kd.C_drew ?_))) : p := h
theorem qD94 {p : Prop} (h : p := by first | rfl | (simp [errW_none, errW_some] <;> rfl) | (simp [*, errW_none, errW_some] <;> rfl)) : p := h
theorem qD95 {p : Prop} (h : p := by repeat (first | (with_reducible exact HR180_3.out) | (with_reducible refine Kd.C_alloc ?_ _) | (with_reducible refine Kd.C_drewN ?_ _) | (with_reducible refine Kd.C_drew ?_) | exact HR180_3.out)) : p := h
theorem qD96 {p : Prop} (h : p := by first | exact Kd.R_nil _ _ _ _ _ | exact Kd.N_nil _ _ _ _ _ | exact Kd.V_nil _ _ _ _ _ | exact Kd.Q_nil _ _ _ _ _ | exact Kd.S_nil _ _ _ _ _) : p := h
theorem qD97 {p : Prop} (h : p := by first | rfl | (simp; done) | (simp [*]; done)) : p := h
theorem qD98 {p : Prop} (h : p := by (with_reducible repeat (first | apply Kd.V_alloc | apply Kd.V_drewN | apply Kd.V_drew)); exact Kd.V_mono HL180_3.out (fun _ hk => ⟨⟨hk.1.1, hk.2⟩, hk.1.2⟩)) : p := h
theorem qD99 {p : Prop} (h : p := by repeat (first | exact HR0.out | (with_reducible refine Kd.C_alloc ?_ _) | (with_reducible refine Kd.C_drewN ?_ _) | (with_reducible refine Kd.C_drew ?_))) : p := h
theorem qD910 {p : Prop} (h : p := by first | (go_simp; done) | (go_simp; rfl)) : p := h
theorem qD911 {p : Prop} (h : p := by (with_reducible repeat (first | apply Kd.N_alloc | apply Kd.N_drewN | apply Kd.N_drew)); exact Kd.N_mono HO_3.out (fun _ hk => hk.1)) : p := h
theorem qD912 {p : Prop} (h : p := by have h_ : (x9_1 : Int) < ((x3_1.length : Int) : Int) := of_decide_eq_true qD91; first | exact h_ | (have e_ := (Kd.N_reads' HO_3.out).1; omega) | simpa using h_) : p := h
theorem qD913 {p : Prop} (h : p := by exact Aside0.mk (Laid.below HG.out qD90)) : p := h
theorem qD914 {p : Prop} (h : p := by repeat (first | exact qD95 | (with_reducible refine Kd.C_alloc ?_ _) | (with_reducible refine Kd.C_drewN ?_ _) | (with_reducible refine Kd.C_drew ?_))) : p := h
/-! ### dag_Ancestors: function 17 -/
def dag_Ancestors.l0 : Nat → List Int → List Bool → Int → Int → Option (List Int)
 | 0, _, _, _, _ => none
 | k + 1, x5, x15, x16, x17 => if x17 < x16 then (if 0 ≤ x17 then (if x17 < (x15.length : Int) then (if rdOf false x15 x17 = true then (if x5.length < 17592186044416 then (dag_Ancestors.l0 k (x5 ++ [wrap64 (x17 + 1)]) x15 x16 (wrap64 (x17 + 1))) else (none)) else (dag_Ancestors.l0 k x5 x15 x16 (wrap64 (x17 + 1)))) else (none)) else (none)) else (some x5)
def dag_Ancestors.f (k : Nat) (l0 : List (S43)) (a1 : Int) : Option (List Int) := (dag_in.f k l0 a1).bind fun t138 => (if t138 = true then ((dag_marks.f l0 (([a1] : List Int))).bind fun t142 => (dag_Ancestors.l0 k ([] : List Int) t142 (t142.length : Int) 0)) else (some ([] : List Int)))
theorem dag_Ancestors.mono_l : ∀ k, (∀ y0 y1 y2 y3, LeO (dag_Ancestors.l0 k y0 y1 y2 y3) (dag_Ancestors.l0 (k + 1) y0 y1 y2 y3))
 | 0 => fun _ _ _ _ r h => by simp [dag_Ancestors.l0] at h
 | k + 1 => by
  have ih0 := dag_Ancestors.mono_l k
  · intro y0 y1 y2 y3
    unfold dag_Ancestors.l0
    repeat' first
    | (with_reducible exact ih0 _ _ _ _)
    | (with_reducible exact dag_in.mono _ _ _)
    | (with_reducible exact LeO.refl _)
    | (with_reducible exact LeO.none _)
    | (with_reducible refine LeO.ite ?_ ?_)
    | (with_reducible refine LeO.bind ?_ (fun _ => ?_))
    | exact ih0 _ _ _ _
    | exact dag_in.mono _ _ _
    | exact LeO.none _
    | refine LeO.ite ?_ ?_
    | refine LeO.bind ?_ (fun _ => ?_)
theorem dag_Ancestors.mono : ∀ a0 a1 k, LeO (dag_Ancestors.f k a0 a1) (dag_Ancestors.f (k + 1) a0 a1) := by
 intro a0 a1 k
 have ih0 := dag_Ancestors.mono_l k; unfold dag_Ancestors.f
 repeat' first
  | (with_reducible exact ih0 _ _ _ _)
  | (with_reducible exact dag_in.mono _ _ _)
  | (with_reducible exact LeO.refl _)
  | (with_reducible exact LeO.none _)
  | (with_reducible refine LeO.ite ?_ ?_)
  | (with_reducible refine LeO.bind ?_ (fun _ => ?_))
  | exact ih0 _ _ _ _
  | exact dag_in.mono _ _ _
  | exact LeO.none _
  | refine LeO.ite ?_ ?_
  | refine LeO.bind ?_ (fun _ => ?_)
set_option maxHeartbeats 8000000 in
set_option maxRecDepth 100000 in
theorem dag_Ancestors.calls (k : Nat) (A0 : Option Addr) (c0 : Nat) (l0 : List (S43)) (a1 : Int) (r : List Int) (w : World) (hr0 : Kd.C k43 w A0 l0.length l0) (hc0 : l0.length ≤ c0) (h : dag_Ancestors.f k l0 a1 = some r) (HG : Aside0 (Laid w)) :
 Calls Tryd.prog 17 #[.slice A0 l0.length c0, .int .i64 a1] w fun e w' => ∃ v0_ : Value, e = .returned (v0_) ∧ Kd.R (Kd.int .i64) 3 w' w.heap.size (fun _ => True) v0_ r ∧ Below w.heap.size w w' := by
 have HR0 := Aside0.mk hr0; have HC0 := Aside0.mk hc0; clear hr0 hc0; have HB := Aside0.mk (Below.refl w.heap.size w)
 have H : ((dag_in.f k l0 a1).bind fun t138 => (if t138 = true then ((dag_marks.f l0 (([a1] : List Int))).bind fun t142 => (dag_Ancestors.l0 k ([] : List Int) t142 (t142.length : Int) 0)) else (some ([] : List Int)))) = some r := h
 clear h; replace H := Option.bind_eq_some_iff.mp H; obtain ⟨t138, A30, H⟩ := H
 replace H : (if t138 = true then ((dag_marks.f l0 (([a1] : List Int))).bind fun t142 => (dag_Ancestors.l0 k ([] : List Int) t142 (t142.length : Int) 0)) else (some ([] : List Int))) = some r := H
 have A3 := Aside0.mk A30; clear A30
 by_cases c4 : t138 = true
 · subst c4
   have H1 : ((dag_marks.f l0 (([a1] : List Int))).bind fun t142 => (dag_Ancestors.l0 k ([] : List Int) t142 (t142.length : Int) 0)) = some r := by rw [if_pos rfl] at H; exact H
   clear H; have H := H1; clear H1; obtain ⟨y139, hy139⟩ : ∃ y_ : List Int, y_ = (([a1] : List Int)) := ⟨_, rfl⟩
   replace H : ((dag_marks.f l0 y139).bind fun t142 => (dag_Ancestors.l0 k ([] : List Int) t142 (t142.length : Int) 0)) = some r := by first | (rw [hy139]; with_reducible exact H) | (have H2_ := (Option.bind_some _ _).symm.trans H; rw [hy139]; with_reducible exact H2_) | (have H2_ := (Option.bind_some _ _).symm.trans H; with_reducible exact H2_) | with_reducible exact H | (rw [hy139]; exact H) | exact H
   have Ny139 := Aside0.mk hy139; clear hy139; replace H := Option.bind_eq_some_iff.mp H; obtain ⟨t142, A50, H⟩ := H; replace H : (dag_Ancestors.l0 k ([] : List Int) t142 (t142.length : Int) 0) = some r := H; have A5 := Aside0.mk A50; clear A50; have H' := Aside0.mk H; clear H
   go_enter Tryd.func17, Tryd.ntmps17
   go_wp2_with (first | ((with_reducible refine gate_callee (f := 33) rfl ?_); refine goesL_ (some 10) rfl rfl Tryd.func33 (by kernel_rfl) rfl #[.slice A0 l0.length c0, .int .i64 a1] rfl qD92 ?_; (with_reducible refine (dag_in.calls k _ _ l0 a1 true _ ?side1 ?side2 A3.out ?side3).mono ?_); (case side1 => exact qD99); (case side2 => exact HC0.out); (case side3 => exact qD913); rintro e w6 ⟨rfl, hb⟩; refine ⟨_, rfl, ?_⟩; have n0_ := Aside0.mk (below_step qD90 hb); clear HB; have HB := n0_; clear n0_; (try clear hb); (try clear hb2); (try clear hk); (try clear hi)) | ((with_reducible refine gate_dst (N := 14) rfl ?_); refine Kd.R_lit (Kd.int .i64) _ 3 ?hg (N := 14) ?hd (xs := ([a1] : List Int)) (inner := [.int .i64 a1]) (ok := fun _ => True) (okp := fun _ => True) ?hr ?hp (fun _ hk => hk) trivial (Below.refl _ _) (Nat.le_refl _) (by simp) ?_; (case hd => rfl); (case hg => rfl); (case hr => exact qD910); (case hp => exact (Reps.one (show Kd.M (Kd.int .i64) _ _ _ a1 [.int .i64 a1] from rfl) (Reps.none _ _))); intro v140 w7 ho8 hb hg_ hnew_; clear hg_ hnew_; (first | rw [← Ny139.out] at ho8 | (simp only [Int.reduceToNat] at ho8; rw [← Ny139.out] at ho8)); have n0_ := Aside0.mk (Kd.R_lower ho8 (below_size qD90)); have n1_ := Aside0.mk (below_step qD90 hb); clear HB; have HO141 := n0_; have HB := n1_; clear n0_ n1_; clear hb ho8; obtain ⟨Ao9, co9, eo9⟩ := Kd.R_slice HO141.out; subst eo9) | ((with_reducible refine gate_callee (f := 34) rfl ?_); refine goesL_ (some 15) rfl rfl Tryd.func34 (by kernel_rfl) rfl #[.slice A0 l0.length c0, .slice Ao9 y139.length co9] rfl qD92 ?_; (with_reducible refine (dag_marks.calls _ _ l0 _ _ y139 t142 _ ?side1 ?side2 ?side3 ?side4 A5.out ?side5).mono ?_); (case side1 => exact qD93); (case side2 => exact HC0.out); (case side3 => repeat (first | exact (Kd.R_reads' HO141.out).2.2 | (with_reducible refine Kd.C_alloc ?_ _) | (with_reducible refine Kd.C_drewN ?_ _) | (with_reducible refine Kd.C_drew ?_))); (case side4 => exact (Kd.R_reads' HO141.out).2.1); (case side5 => exact qD913); rintro e w10 ⟨v143, rfl, ho0, hb⟩; refine ⟨_, rfl, ?_⟩; have n0_ := Aside0.mk (Kd.R_below (mRD9 HO141.out) hb); have n1_ := Aside0.mk (Kd.R_lower ho0 (below_size qD90)); have n2_ := Aside0.mk (below_step qD90 hb); clear HO141; clear HB; have HO141 := n0_; have HO144 := n1_; have HB := n2_; clear n0_ n1_ n2_; (try clear hb); (try clear hb2); (try clear hk); (try clear hi); (try clear ho0); obtain ⟨Ao11, co11, eo11⟩ := Kd.R_slice HO144.out; subst eo11))
   go_loopg [5, 17] k (fun kq v5 v17 w' => ∃ (x5_1 : List Int) (x17_1 : Int), v17 = .int .i64 x17_1 ∧ Aside0 (dag_Ancestors.l0 kq x5_1 t142 (t142.length : Int) x17_1 = some r) ∧ Aside0 (kq ≤ k) ∧ Aside0 (Kd.R (Kd.int .i64) 3 w' w.heap.size (fun _ => True) v5 x5_1) ∧ Aside0 (Kd.R Kd.bool 4 w' w.heap.size (fun _ => True) (.slice Ao11 t142.length co11) t142) ∧ Aside0 (Below w.heap.size w w'))
   case atStart => exact ⟨(([] : List Int)), (0), qD97, H', ⟨Nat.le_refl _⟩, ⟨qD96⟩, ⟨by (with_reducible repeat (first | apply Kd.R_alloc | apply Kd.R_drewN | apply Kd.R_drew)); exact HO144.out⟩, ⟨qD90⟩⟩
   case round =>
    clear H'; (try clear c1); (try clear p2); (try clear c3); (try clear c4); obtain ⟨x5_1, x17_1, rfl, HA, HK1, HO_5, HO_15, HB⟩ := hrel
    cases gk with
    | zero => exact absurd HA.out (by simp [dag_Ancestors.l0])
    | succ k1 =>
     have H := HA.out; clear HA; simp only [dag_Ancestors.l0] at H
     by_cases c12 : x17_1 < (t142.length : Int)
     · rw [if_pos c12] at H
       have c12b0 : decide (x17_1 < (t142.length : Int)) = true := decide_eq_true c12; clear c12
       by_cases c13 : 0 ≤ x17_1
       · rw [if_pos c13] at H
         have c13b0 : decide (0 ≤ x17_1) = true := decide_eq_true c13; clear c13
         by_cases c14 : x17_1 < (t142.length : Int)
         · rw [if_pos c14] at H
           have c14b0 : decide (x17_1 < (t142.length : Int)) = true := decide_eq_true c14; clear c14; obtain ⟨bq15, hbq15⟩ : ∃ b_ : Bool, b_ = (rdOf false t142 x17_1) := ⟨_, rfl⟩
           replace H : (if bq15 = true then (if x5_1.length < 17592186044416 then (dag_Ancestors.l0 k1 (x5_1 ++ [wrap64 (x17_1 + 1)]) t142 (t142.length : Int) (wrap64 (x17_1 + 1))) else (none)) else (dag_Ancestors.l0 k1 x5_1 t142 (t142.length : Int) (wrap64 (x17_1 + 1)))) = some r := by rw [← hbq15] at H; exact H
           have Nbq15 := Aside0.mk hbq15; clear hbq15
           by_cases c16 : bq15 = true
           · subst c16
             have H1 : (if x5_1.length < 17592186044416 then (dag_Ancestors.l0 k1 (x5_1 ++ [wrap64 (x17_1 + 1)]) t142 (t142.length : Int) (wrap64 (x17_1 + 1))) else (none)) = some r := by rw [if_pos rfl] at H; exact H
             clear H; have H := H1; clear H1
             by_cases c17 : x5_1.length < 17592186044416
             · rw [if_pos c17] at H
               have LMc17 := Aside0.mk c17; clear c17; obtain ⟨y146, hy146⟩ : ∃ y_ : List Int, y_ = (x5_1 ++ [wrap64 (x17_1 + 1)]) := ⟨_, rfl⟩
               replace H : (dag_Ancestors.l0 k1 y146 t142 (t142.length : Int) (wrap64 (x17_1 + 1))) = some r := by first | (rw [hy146]; with_reducible exact H) | (have H2_ := (Option.bind_some _ _).symm.trans H; rw [hy146]; with_reducible exact H2_) | (have H2_ := (Option.bind_some _ _).symm.trans H; with_reducible exact H2_) | with_reducible exact H | (rw [hy146]; exact H) | exact H
               have Ny146 := Aside0.mk hy146; clear hy146; have H' := Aside0.mk H; clear H; have p145 : 0 ≤ (x17_1 : Int) := of_decide_eq_true qD91; have q145 : x17_1 < (t142.length : Int) := of_decide_eq_true qD91; obtain ⟨ad145, e145, hx145_0⟩ := Kd.at_bool (Kd.R_reads' HO_15.out).2.2 x17_1 p145 q145
               (try rw [← Nbq15.out] at hx145_0)
               cases e145; replace p145 := eq_true p145; replace q145 := eq_true q145
               go_wp2_with (first | ((with_reducible refine gate_builtin (b := .append) (xs := #[.tmp 23, .tmp 26]) rfl ?_); at_builtin; refine Kd.R_append (Kd.int .i64) (w0 := w) w.heap.size rfl (.tmp 23) (.tmp 26) 29 3 (.int .i64 0) 8 rfl Tryd.underlying29 info3 rfl (by decide) (by omega) u5 x5_1 (wrap64 (x17_1 + 1)) [.int .i64 (wrap64 (x17_1 + 1))] (fun _ => True) (fun _ => False) rfl rfl ?aP (fun _ hk => hk.elim) ?aF ?aO ?aB ?aS ?aL ?_; (case aP => exact rfl); (case aB => exact qD90); (case aF => exact (fun _ _ => trivial)); (case aO => exact (mRD9 HO_5.out)); (case aS => exact (below_size qD90)); (case aL => have := LMc17.out; omega); intro v147 w18 ho hb hg hat; rw [← Ny146.out] at ho; have n0_ := Aside0.mk (Kd.R_over' (mRD9 HO_15.out) (Kd.R_typed (mRD9 HO_5.out)) (by decide) hg); have n1_ := Aside0.mk (hb); have n2_ := Aside0.mk (ho); clear HO_15; clear HB; clear HO_5; have HO_15 := n0_; have HB := n1_; have HO148 := n2_; clear n0_ n1_ n2_; clear ho hb hg hat))
               go_roundg k1
               case measure => have := HK1.out; omega
               case rel => exact ⟨(y146), (wrap64 (x17_1 + 1)), qD97, H', ⟨by have := HK1.out; omega⟩, ⟨by (with_reducible repeat (first | apply Kd.R_alloc | apply Kd.R_drewN | apply Kd.R_drew)); exact HO148.out⟩, ⟨by (with_reducible repeat (first | apply Kd.R_alloc | apply Kd.R_drewN | apply Kd.R_drew)); exact HO_15.out⟩, ⟨qD90⟩⟩
             · rw [if_neg c17] at H
               exact absurd H (by simp)
           · replace c16 := Bool.eq_false_iff.mpr c16
             subst c16
             have H1 : (dag_Ancestors.l0 k1 x5_1 t142 (t142.length : Int) (wrap64 (x17_1 + 1))) = some r := by rw [if_neg (show ¬ (false = true) by decide)] at H; exact H
             clear H; have H := H1; clear H1; have H' := Aside0.mk H; clear H; have p145 : 0 ≤ (x17_1 : Int) := of_decide_eq_true qD91; have q145 : x17_1 < (t142.length : Int) := of_decide_eq_true qD91; obtain ⟨ad145, e145, hx145_0⟩ := Kd.at_bool (Kd.R_reads' HO_15.out).2.2 x17_1 p145 q145
             (try rw [← Nbq15.out] at hx145_0)
             cases e145; replace p145 := eq_true p145; replace q145 := eq_true q145
             go_wp2
             go_roundg k1
             case measure => have := HK1.out; omega
             case rel => exact ⟨(x5_1), (wrap64 (x17_1 + 1)), qD97, H', ⟨by have := HK1.out; omega⟩, ⟨by (with_reducible repeat (first | apply Kd.R_alloc | apply Kd.R_drewN | apply Kd.R_drew)); exact HO_5.out⟩, ⟨by (with_reducible repeat (first | apply Kd.R_alloc | apply Kd.R_drewN | apply Kd.R_drew)); exact HO_15.out⟩, ⟨qD90⟩⟩
         · rw [if_neg c14] at H
           exact absurd H (by simp)
       · rw [if_neg c13] at H
         exact absurd H (by simp)
     · rw [if_neg c12] at H
       have c12b0 : decide (x17_1 < (t142.length : Int)) = false := decide_eq_false c12; clear c12; obtain rfl := Option.some.inj H
       go_wp2
       go_ret
       exact ⟨_, qD94, by (with_reducible repeat (first | apply Kd.R_alloc | apply Kd.R_drewN | apply Kd.R_drew)); exact HO_5.out, qD90⟩
 · replace c4 := Bool.eq_false_iff.mpr c4
   subst c4
   have H1 : (some ([] : List Int)) = some r := by rw [if_neg (show ¬ (false = true) by decide)] at H; exact H
   clear H; have H := H1; clear H1; obtain rfl := Option.some.inj H
   go_enter Tryd.func17, Tryd.ntmps17
   go_wp2_with (first | ((with_reducible refine gate_callee (f := 33) rfl ?_); refine goesL_ (some 10) rfl rfl Tryd.func33 (by kernel_rfl) rfl #[.slice A0 l0.length c0, .int .i64 a1] rfl qD92 ?_; (with_reducible refine (dag_in.calls k _ _ l0 a1 false _ ?side1 ?side2 A3.out ?side3).mono ?_); (case side1 => exact qD99); (case side2 => exact HC0.out); (case side3 => exact qD913); rintro e w19 ⟨rfl, hb⟩; refine ⟨_, rfl, ?_⟩; have n0_ := Aside0.mk (below_step qD90 hb); clear HB; have HB := n0_; clear n0_; (try clear hb); (try clear hb2); (try clear hk); (try clear hi)))
   go_ret
   exact ⟨_, qD94, qD96, qD90⟩

/-! ### dag_Base: function 18 -/
mutual
def dag_Base.j0 : Nat → List (S43) → Int → Int → Bool → Option (Int × Bool)
 | 0, _, _, _, _ => none
 | k + 1, x0, x1, x2, x20 => if x20 = true then (some (0, false)) else ((dag_marks.f x0 (([x1] : List Int))).bind fun t154 => ((dag_marks.f x0 (([x2] : List Int))).bind fun t160 => (dag_Base.l0 k t154 t160 (wrap64 ((x0.length : Int) - 1)))))
def dag_Base.l0 : Nat → List Bool → List Bool → Int → Option (Int × Bool)
 | 0, _, _, _ => none
 | k + 1, x8, x9, x10 => if x10 ≥ 0 then (if 0 ≤ x10 then (if x10 < (x8.length : Int) then (if rdOf false x8 x10 = true then (if x10 < (x9.length : Int) then (if rdOf false x9 x10 = true then (some (wrap64 (x10 + 1), true)) else (dag_Base.l0 k x8 x9 (wrap64 (x10 - 1)))) else (none)) else (dag_Base.l0 k x8 x9 (wrap64 (x10 - 1)))) else (none)) else (none)) else (some (0, false))
end
def dag_Base.f (k : Nat) (l0 : List (S43)) (a1 : Int) (a2 : Int) : Option (Int × Bool) := (dag_in.f k l0 a1).bind fun t149 => (if t149 = true then ((dag_in.f k l0 a2).bind fun t150 => (dag_Base.j0 k l0 a1 a2 (!t150))) else (dag_Base.j0 k l0 a1 a2 true))
theorem dag_Base.mono_l : ∀ k, (∀ y0 y1 y2 y3, LeO (dag_Base.j0 k y0 y1 y2 y3) (dag_Base.j0 (k + 1) y0 y1 y2 y3)) ∧ (∀ y0 y1 y2, LeO (dag_Base.l0 k y0 y1 y2) (dag_Base.l0 (k + 1) y0 y1 y2))
 | 0 => ⟨fun _ _ _ _ r h => by simp [dag_Base.j0] at h, fun _ _ _ r h => by simp [dag_Base.l0] at h⟩
 | k + 1 => by
  obtain ⟨ih0, ih1⟩ := dag_Base.mono_l k
  refine ⟨?_, ?_⟩
  · intro y0 y1 y2 y3
    unfold dag_Base.j0
    repeat' first
    | (with_reducible exact ih0 _ _ _ _)
    | (with_reducible exact ih1 _ _ _)
    | (with_reducible exact dag_in.mono _ _ _)
    | (with_reducible exact LeO.refl _)
    | (with_reducible exact LeO.none _)
    | (with_reducible refine LeO.ite ?_ ?_)
    | (with_reducible refine LeO.bind ?_ (fun _ => ?_))
    | exact ih0 _ _ _ _
    | exact ih1 _ _ _
    | exact dag_in.mono _ _ _
    | exact LeO.none _
    | refine LeO.ite ?_ ?_
    | refine LeO.bind ?_ (fun _ => ?_)
  · intro y0 y1 y2
    unfold dag_Base.l0
    repeat' first
    | (with_reducible exact ih0 _ _ _ _)
    | (with_reducible exact ih1 _ _ _)
    | (with_reducible exact dag_in.mono _ _ _)
    | (with_reducible exact LeO.refl _)
    | (with_reducible exact LeO.none _)
    | (with_reducible refine LeO.ite ?_ ?_)
    | (with_reducible refine LeO.bind ?_ (fun _ => ?_))
    | exact ih0 _ _ _ _
    | exact ih1 _ _ _
    | exact dag_in.mono _ _ _
    | exact LeO.none _
    | refine LeO.ite ?_ ?_
    | refine LeO.bind ?_ (fun _ => ?_)
theorem dag_Base.mono : ∀ a0 a1 a2 k, LeO (dag_Base.f k a0 a1 a2) (dag_Base.f (k + 1) a0 a1 a2) := by
 intro a0 a1 a2 k
 obtain ⟨ih0, ih1⟩ := dag_Base.mono_l k; unfold dag_Base.f
 repeat' first
  | (with_reducible exact ih0 _ _ _ _)
  | (with_reducible exact ih1 _ _ _)
  | (with_reducible exact dag_in.mono _ _ _)
  | (with_reducible exact LeO.refl _)
  | (with_reducible exact LeO.none _)
  | (with_reducible refine LeO.ite ?_ ?_)
  | (with_reducible refine LeO.bind ?_ (fun _ => ?_))
  | exact ih0 _ _ _ _
  | exact ih1 _ _ _
  | exact dag_in.mono _ _ _
  | exact LeO.none _
  | refine LeO.ite ?_ ?_
  | refine LeO.bind ?_ (fun _ => ?_)
set_option maxHeartbeats 8000000 in
set_option maxRecDepth 100000 in
theorem dag_Base.calls (k : Nat) (A0 : Option Addr) (c0 : Nat) (l0 : List (S43)) (a1 : Int) (a2 : Int) (r1 : Int) (r2 : Bool) (w : World) (hr0 : Kd.C k43 w A0 l0.length l0) (hc0 : l0.length ≤ c0) (h : dag_Base.f k l0 a1 a2 = some (r1, r2)) (HG : Aside0 (Laid w)) :
 Calls Tryd.prog 18 #[.slice A0 l0.length c0, .int .i64 a1, .int .i64 a2] w fun e w' => e = .returned (.tuple #[.int .i64 r1, .bool r2]) ∧ Below w.heap.size w w' := by
 have HR0 := Aside0.mk hr0; have HC0 := Aside0.mk hc0; clear hr0 hc0; have HB := Aside0.mk (Below.refl w.heap.size w)
 have H : ((dag_in.f k l0 a1).bind fun t149 => (if t149 = true then ((dag_in.f k l0 a2).bind fun t150 => (dag_Base.j0 k l0 a1 a2 (!t150))) else (dag_Base.j0 k l0 a1 a2 true))) = some (r1, r2) := h
 clear h; have HC4 := Aside0.mk H; clear H
 go_enter Tryd.func18, Tryd.ntmps18
 go_upto_region 1 with (fail)
 go_cut [20] (fun v20 wc => ∃ (kq : Nat) (x20_3 : Bool), v20 = .bool x20_3 ∧ Aside0 (dag_Base.j0 kq l0 a1 a2 x20_3 = some (r1, r2)) ∧ Aside0 (kq ≤ k) ∧ Aside0 (Below w.heap.size w wc))
 case first =>
  have H := HC4.out; clear HC4; replace H := Option.bind_eq_some_iff.mp H; obtain ⟨t149, A50, H⟩ := H
  replace H : (if t149 = true then ((dag_in.f k l0 a2).bind fun t150 => (dag_Base.j0 k l0 a1 a2 (!t150))) else (dag_Base.j0 k l0 a1 a2 true)) = some (r1, r2) := H
  have A5 := Aside0.mk A50; clear A50
  by_cases c6 : t149 = true
  · subst c6
    have H1 : ((dag_in.f k l0 a2).bind fun t150 => (dag_Base.j0 k l0 a1 a2 (!t150))) = some (r1, r2) := by rw [if_pos rfl] at H; exact H
    clear H; have H := H1; clear H1; replace H := Option.bind_eq_some_iff.mp H; obtain ⟨t150, A70, H⟩ := H; replace H : (dag_Base.j0 k l0 a1 a2 (!t150)) = some (r1, r2) := H; have A7 := Aside0.mk A70; clear A70; have H' := Aside0.mk H; clear H
    go_wp2_with (first | ((with_reducible refine gate_callee (f := 33) rfl ?_); refine goesL_ (some 13) rfl rfl Tryd.func33 (by kernel_rfl) rfl #[.slice A0 l0.length c0, .int .i64 a1] rfl qD92 ?_; (with_reducible refine (dag_in.calls k _ _ l0 a1 true _ ?side1 ?side2 A5.out ?side3).mono ?_); (case side1 => exact qD93); (case side2 => exact HC0.out); (case side3 => exact qD913); rintro e w8 ⟨rfl, hb⟩; refine ⟨_, rfl, ?_⟩; have n0_ := Aside0.mk (below_step qD90 hb); clear HB; have HB := n0_; clear n0_; (try clear hb); (try clear hb2); (try clear hk); (try clear hi)) | (go_at_call 33; (with_reducible refine (dag_in.calls k _ _ l0 a2 t150 _ ?side1 ?side2 A7.out ?side3).mono ?_); (case side1 => exact qD93); (case side2 => exact HC0.out); (case side3 => exact qD913); rintro e w9 ⟨rfl, hb⟩; have n0_ := Aside0.mk (below_step qD90 hb); clear HB; have HB := n0_; clear n0_; (try clear hb); (try clear hb2); (try clear hk); (try clear hi)))
    go_meet
    case rel => exact ⟨_, (!t150), qD97, H', ⟨by first | omega | exact Nat.le_refl _⟩, ⟨qD90⟩⟩
  · replace c6 := Bool.eq_false_iff.mpr c6
    subst c6
    have H1 : (dag_Base.j0 k l0 a1 a2 true) = some (r1, r2) := by rw [if_neg (show ¬ (false = true) by decide)] at H; exact H
    clear H; have H := H1; clear H1; have H' := Aside0.mk H; clear H
    go_wp2_with (first | ((with_reducible refine gate_callee (f := 33) rfl ?_); refine goesL_ (some 13) rfl rfl Tryd.func33 (by kernel_rfl) rfl #[.slice A0 l0.length c0, .int .i64 a1] rfl qD92 ?_; (with_reducible refine (dag_in.calls k _ _ l0 a1 false _ ?side1 ?side2 A5.out ?side3).mono ?_); (case side1 => exact qD93); (case side2 => exact HC0.out); (case side3 => exact qD913); rintro e w10 ⟨rfl, hb⟩; refine ⟨_, rfl, ?_⟩; have n0_ := Aside0.mk (below_step qD90 hb); clear HB; have HB := n0_; clear n0_; (try clear hb); (try clear hb2); (try clear hk); (try clear hi)))
    go_meet
    case rel => exact ⟨_, (true), qD97, H', ⟨by first | omega | exact Nat.le_refl _⟩, ⟨qD90⟩⟩
 case rest =>
  clear HC4; (try clear c1); (try clear p2); (try clear c3); (try clear c6); obtain ⟨kq, x20_3, rfl, HA, HJ3, HB⟩ := hcut
  cases kq with
  | zero => exact absurd HA.out (by simp [dag_Base.j0])
  | succ kj3 =>
   have H := HA.out; clear HA; simp only [dag_Base.j0] at H
   by_cases c11 : x20_3 = true
   · subst c11
     have H1 : (some (0, false)) = some (r1, r2) := by rw [if_pos rfl] at H; exact H
     clear H; have H := H1; clear H1; simp only [Option.some.injEq, Prod.mk.injEq] at H; obtain ⟨rfl, rfl⟩ := H
     go_wp2
     go_ret2
     exact ⟨qD94, qD90⟩
   · replace c11 := Bool.eq_false_iff.mpr c11
     subst c11
     have H1 : ((dag_marks.f l0 (([a1] : List Int))).bind fun t154 => ((dag_marks.f l0 (([a2] : List Int))).bind fun t160 => (dag_Base.l0 kj3 t154 t160 (wrap64 ((l0.length : Int) - 1))))) = some (r1, r2) := by rw [if_neg (show ¬ (false = true) by decide)] at H; exact H
     clear H; have H := H1; clear H1; obtain ⟨y151, hy151⟩ : ∃ y_ : List Int, y_ = (([a1] : List Int)) := ⟨_, rfl⟩
     replace H : ((dag_marks.f l0 y151).bind fun t154 => ((dag_marks.f l0 (([a2] : List Int))).bind fun t160 => (dag_Base.l0 kj3 t154 t160 (wrap64 ((l0.length : Int) - 1))))) = some (r1, r2) := by first | (rw [hy151]; with_reducible exact H) | (have H2_ := (Option.bind_some _ _).symm.trans H; rw [hy151]; with_reducible exact H2_) | (have H2_ := (Option.bind_some _ _).symm.trans H; with_reducible exact H2_) | with_reducible exact H | (rw [hy151]; exact H) | exact H
     have Ny151 := Aside0.mk hy151; clear hy151; replace H := Option.bind_eq_some_iff.mp H; obtain ⟨t154, A120, H⟩ := H
     replace H : ((dag_marks.f l0 (([a2] : List Int))).bind fun t160 => (dag_Base.l0 kj3 t154 t160 (wrap64 ((l0.length : Int) - 1)))) = some (r1, r2) := H
     have A12 := Aside0.mk A120; clear A120; obtain ⟨y157, hy157⟩ : ∃ y_ : List Int, y_ = (([a2] : List Int)) := ⟨_, rfl⟩
     replace H : ((dag_marks.f l0 y157).bind fun t160 => (dag_Base.l0 kj3 t154 t160 (wrap64 ((l0.length : Int) - 1)))) = some (r1, r2) := by first | (rw [hy157]; with_reducible exact H) | (have H2_ := (Option.bind_some _ _).symm.trans H; rw [hy157]; with_reducible exact H2_) | (have H2_ := (Option.bind_some _ _).symm.trans H; with_reducible exact H2_) | with_reducible exact H | (rw [hy157]; exact H) | exact H
     have Ny157 := Aside0.mk hy157; clear hy157; replace H := Option.bind_eq_some_iff.mp H; obtain ⟨t160, A130, H⟩ := H; replace H : (dag_Base.l0 kj3 t154 t160 (wrap64 ((l0.length : Int) - 1))) = some (r1, r2) := H; have A13 := Aside0.mk A130; clear A130; have H' := Aside0.mk H; clear H
     go_wp2_with (first | ((with_reducible refine gate_dst (N := 23) rfl ?_); refine Kd.R_lit (Kd.int .i64) _ 3 ?hg (N := 23) ?hd (xs := ([a1] : List Int)) (inner := [.int .i64 a1]) (ok := fun _ => True) (okp := fun _ => True) ?hr ?hp (fun _ hk => hk) trivial (Below.refl _ _) (Nat.le_refl _) (by simp) ?_; (case hd => rfl); (case hg => rfl); (case hr => exact qD910); (case hp => exact (Reps.one (show Kd.M (Kd.int .i64) _ _ _ a1 [.int .i64 a1] from rfl) (Reps.none _ _))); intro v152 w14 ho15 hb hg_ hnew_; clear hg_ hnew_; (first | rw [← Ny151.out] at ho15 | (simp only [Int.reduceToNat] at ho15; rw [← Ny151.out] at ho15)); have n0_ := Aside0.mk (Kd.R_lower ho15 (below_size qD90)); have n1_ := Aside0.mk (below_step qD90 hb); clear HB; have HO153 := n0_; have HB := n1_; clear n0_ n1_; clear hb ho15; obtain ⟨Ao16, co16, eo16⟩ := Kd.R_slice HO153.out; subst eo16) | ((with_reducible refine gate_callee (f := 34) rfl ?_); refine goesL_ (some 24) rfl rfl Tryd.func34 (by kernel_rfl) rfl #[.slice A0 l0.length c0, .slice Ao16 y151.length co16] rfl qD92 ?_; (with_reducible refine (dag_marks.calls _ _ l0 _ _ y151 t154 _ ?side1 ?side2 ?side3 ?side4 A12.out ?side5).mono ?_); (case side1 => exact qD93); (case side2 => exact HC0.out); (case side3 => repeat (first | exact (Kd.R_reads' HO153.out).2.2 | (with_reducible refine Kd.C_alloc ?_ _) | (with_reducible refine Kd.C_drewN ?_ _) | (with_reducible refine Kd.C_drew ?_))); (case side4 => exact (Kd.R_reads' HO153.out).2.1); (case side5 => exact qD913); rintro e w17 ⟨v155, rfl, ho0, hb⟩; refine ⟨_, rfl, ?_⟩; have n0_ := Aside0.mk (Kd.R_below (mRD9 HO153.out) hb); have n1_ := Aside0.mk (Kd.R_lower ho0 (below_size qD90)); have n2_ := Aside0.mk (below_step qD90 hb); clear HO153; clear HB; have HO153 := n0_; have HO156 := n1_; have HB := n2_; clear n0_ n1_ n2_; (try clear hb); (try clear hb2); (try clear hk); (try clear hi); (try clear ho0)) | ((with_reducible refine gate_dst (N := 27) rfl ?_); refine Kd.R_lit (Kd.int .i64) _ 3 ?hg (N := 27) ?hd (xs := ([a2] : List Int)) (inner := [.int .i64 a2]) (ok := fun _ => True) (okp := fun _ => True) ?hr ?hp (fun _ hk => hk) trivial (Below.refl _ _) (Nat.le_refl _) (by simp) ?_; (case hd => rfl); (case hg => rfl); (case hr => exact qD910); (case hp => exact (Reps.one (show Kd.M (Kd.int .i64) _ _ _ a2 [.int .i64 a2] from rfl) (Reps.none _ _))); intro v158 w18 ho19 hb hg_ hnew_; clear hg_ hnew_; (first | rw [← Ny157.out] at ho19 | (simp only [Int.reduceToNat] at ho19; rw [← Ny157.out] at ho19)); have n0_ := Aside0.mk (Kd.R_elder' (mRD9 HO153.out) (Kd.R_base ho19) hb); have n1_ := Aside0.mk (Kd.R_below (mRD9 HO156.out) hb); have n2_ := Aside0.mk (Kd.R_lower (Kd.R_new' ho19 (Kd.R_lt (mRD9 HO153.out))) (below_size qD90)); have n3_ := Aside0.mk (below_step qD90 hb); clear HO153; clear HO156; clear HB; have HO153 := n0_; have HO156 := n1_; have HO159 := n2_; have HB := n3_; clear n0_ n1_ n2_ n3_; clear hb ho19; obtain ⟨Ao20, co20, eo20⟩ := Kd.R_slice HO159.out; subst eo20) | ((with_reducible refine gate_callee (f := 34) rfl ?_); refine goesL_ (some 28) rfl rfl Tryd.func34 (by kernel_rfl) rfl #[.slice A0 l0.length c0, .slice Ao20 y157.length co20] rfl qD92 ?_; (with_reducible refine (dag_marks.calls _ _ l0 _ _ y157 t160 _ ?side1 ?side2 ?side3 ?side4 A13.out ?side5).mono ?_); (case side1 => exact qD93); (case side2 => exact HC0.out); (case side3 => repeat (first | exact (Kd.R_reads' HO159.out).2.2 | (with_reducible refine Kd.C_alloc ?_ _) | (with_reducible refine Kd.C_drewN ?_ _) | (with_reducible refine Kd.C_drew ?_))); (case side4 => exact (Kd.R_reads' HO159.out).2.1); (case side5 => exact qD913); rintro e w21 ⟨v161, rfl, ho0, hb⟩; refine ⟨_, rfl, ?_⟩; have n0_ := Aside0.mk (Kd.R_below (mRD9 HO153.out) hb); have n1_ := Aside0.mk (Kd.R_elder' (mRD9 HO156.out) (Kd.R_base ho0) hb); have n2_ := Aside0.mk (Kd.R_below (mRD9 HO159.out) hb); have n3_ := Aside0.mk (Kd.R_lower (Kd.R_new' ho0 (Kd.R_lt (mRD9 HO156.out))) (below_size qD90)); have n4_ := Aside0.mk (below_step qD90 hb); clear HO153; clear HO156; clear HO159; clear HB; have HO153 := n0_; have HO156 := n1_; have HO159 := n2_; have HO162 := n3_; have HB := n4_; clear n0_ n1_ n2_ n3_ n4_; (try clear hb); (try clear hb2); (try clear hk); (try clear hi); (try clear ho0)))
     go_loopg [10] kj3 (fun kq v10 w' => ∃ (x10_2 : Int), v10 = .int .i64 x10_2 ∧ Aside0 (dag_Base.l0 kq t154 t160 x10_2 = some (r1, r2)) ∧ Aside0 (kq ≤ kj3) ∧ Aside0 (Kd.R Kd.bool 4 w' w.heap.size (fun k_ => some k_ ≠ (v161 : Value).ownBlock) v155 t154) ∧ Aside0 (Kd.R Kd.bool 4 w' w.heap.size (fun k_ => some k_ ≠ (v155 : Value).ownBlock) v161 t160) ∧ Aside0 (Below w.heap.size w w'))
     case atStart => exact ⟨(wrap64 ((l0.length : Int) - 1)), qD97, H', ⟨Nat.le_refl _⟩, ⟨by (with_reducible repeat (first | apply Kd.R_alloc | apply Kd.R_drewN | apply Kd.R_drew)); exact Kd.R_mono HO156.out (fun _ hk => hk.2)⟩, ⟨by (with_reducible repeat (first | apply Kd.R_alloc | apply Kd.R_drewN | apply Kd.R_drew)); exact Kd.R_mono HO162.out (fun _ hk => hk.2)⟩, ⟨qD90⟩⟩
     case round =>
      clear H'; (try clear c1); (try clear p2); (try clear c3); (try clear c6); (try clear p6); (try clear c11); (try clear c18); (try clear p2); obtain ⟨x10_2, rfl, HA, HK2, HO_8, HO_9, HB⟩ := hrel
      cases gk with
      | zero => exact absurd HA.out (by simp [dag_Base.l0])
      | succ k2 =>
       have H := HA.out; clear HA; simp only [dag_Base.l0] at H
       by_cases c22 : x10_2 ≥ 0
       · rw [if_pos c22] at H
         have c22b0 : decide (0 ≤ x10_2) = true := decide_eq_true c22; clear c22
         by_cases c23 : 0 ≤ x10_2
         · rw [if_pos c23] at H
           have c23b0 : decide (0 ≤ x10_2) = true := decide_eq_true c23; clear c23
           by_cases c24 : x10_2 < (t154.length : Int)
           · rw [if_pos c24] at H
             have c24b0 : decide (x10_2 < (t154.length : Int)) = true := decide_eq_true c24; clear c24; obtain ⟨bq25, hbq25⟩ : ∃ b_ : Bool, b_ = (rdOf false t154 x10_2) := ⟨_, rfl⟩
             replace H : (if bq25 = true then (if x10_2 < (t160.length : Int) then (if rdOf false t160 x10_2 = true then (some (wrap64 (x10_2 + 1), true)) else (dag_Base.l0 k2 t154 t160 (wrap64 (x10_2 - 1)))) else (none)) else (dag_Base.l0 k2 t154 t160 (wrap64 (x10_2 - 1)))) = some (r1, r2) := by rw [← hbq25] at H; exact H
             have Nbq25 := Aside0.mk hbq25; clear hbq25
             by_cases c26 : bq25 = true
             · subst c26
               have H1 : (if x10_2 < (t160.length : Int) then (if rdOf false t160 x10_2 = true then (some (wrap64 (x10_2 + 1), true)) else (dag_Base.l0 k2 t154 t160 (wrap64 (x10_2 - 1)))) else (none)) = some (r1, r2) := by rw [if_pos rfl] at H; exact H
               clear H; have H := H1; clear H1
               by_cases c27 : x10_2 < (t160.length : Int)
               · rw [if_pos c27] at H
                 have c27b0 : decide (x10_2 < (t160.length : Int)) = true := decide_eq_true c27; clear c27; obtain ⟨bq28, hbq28⟩ : ∃ b_ : Bool, b_ = (rdOf false t160 x10_2) := ⟨_, rfl⟩
                 replace H : (if bq28 = true then (some (wrap64 (x10_2 + 1), true)) else (dag_Base.l0 k2 t154 t160 (wrap64 (x10_2 - 1)))) = some (r1, r2) := by rw [← hbq28] at H; exact H
                 have Nbq28 := Aside0.mk hbq28; clear hbq28
                 by_cases c29 : bq28 = true
                 · subst c29
                   have H1 : (some (wrap64 (x10_2 + 1), true)) = some (r1, r2) := by rw [if_pos rfl] at H; exact H
                   clear H; have H := H1; clear H1; simp only [Option.some.injEq, Prod.mk.injEq] at H; obtain ⟨rfl, rfl⟩ := H; obtain ⟨Ao30, co30, eo30⟩ := Kd.R_slice HO_8.out; subst eo30; have p163 : 0 ≤ (x10_2 : Int) := of_decide_eq_true qD91; have q163 : x10_2 < (t154.length : Int) := of_decide_eq_true qD91; obtain ⟨ad163, e163, hx163_0⟩ := Kd.at_bool (Kd.R_reads' HO_8.out).2.2 x10_2 p163 q163
                   (try rw [← Nbq25.out] at hx163_0)
                   (try rw [← Nbq28.out] at hx163_0)
                   cases e163; replace p163 := eq_true p163; replace q163 := eq_true q163; obtain ⟨Ao31, co31, eo31⟩ := Kd.R_slice HO_9.out; subst eo31; have p164 : 0 ≤ (x10_2 : Int) := of_decide_eq_true qD91; have q164 : x10_2 < (t160.length : Int) := of_decide_eq_true qD91; obtain ⟨ad164, e164, hx164_0⟩ := Kd.at_bool (Kd.R_reads' HO_9.out).2.2 x10_2 p164 q164
                   (try rw [← Nbq25.out] at hx164_0)
                   (try rw [← Nbq28.out] at hx164_0)
                   cases e164; replace p164 := eq_true p164; replace q164 := eq_true q164
                   go_wp2
                   go_ret2
                   exact ⟨qD94, qD90⟩
                 · replace c29 := Bool.eq_false_iff.mpr c29
                   subst c29
                   have H1 : (dag_Base.l0 k2 t154 t160 (wrap64 (x10_2 - 1))) = some (r1, r2) := by rw [if_neg (show ¬ (false = true) by decide)] at H; exact H
                   clear H; have H := H1; clear H1; have H' := Aside0.mk H; clear H; obtain ⟨Ao32, co32, eo32⟩ := Kd.R_slice HO_8.out; subst eo32; have p163 : 0 ≤ (x10_2 : Int) := of_decide_eq_true qD91; have q163 : x10_2 < (t154.length : Int) := of_decide_eq_true qD91; obtain ⟨ad163, e163, hx163_0⟩ := Kd.at_bool (Kd.R_reads' HO_8.out).2.2 x10_2 p163 q163
                   (try rw [← Nbq25.out] at hx163_0)
                   (try rw [← Nbq28.out] at hx163_0)
                   cases e163; replace p163 := eq_true p163; replace q163 := eq_true q163; obtain ⟨Ao33, co33, eo33⟩ := Kd.R_slice HO_9.out; subst eo33; have p164 : 0 ≤ (x10_2 : Int) := of_decide_eq_true qD91; have q164 : x10_2 < (t160.length : Int) := of_decide_eq_true qD91; obtain ⟨ad164, e164, hx164_0⟩ := Kd.at_bool (Kd.R_reads' HO_9.out).2.2 x10_2 p164 q164
                   (try rw [← Nbq25.out] at hx164_0)
                   (try rw [← Nbq28.out] at hx164_0)
                   cases e164; replace p164 := eq_true p164; replace q164 := eq_true q164
                   go_wp2
                   go_roundg k2
                   case measure => have := HJ3.out; have := HK2.out; omega
                   case rel => exact ⟨(wrap64 (x10_2 - 1)), qD97, H', ⟨by have := HJ3.out; have := HK2.out; omega⟩, ⟨by (with_reducible repeat (first | apply Kd.R_alloc | apply Kd.R_drewN | apply Kd.R_drew)); exact HO_8.out⟩, ⟨by (with_reducible repeat (first | apply Kd.R_alloc | apply Kd.R_drewN | apply Kd.R_drew)); exact HO_9.out⟩, ⟨qD90⟩⟩
               · rw [if_neg c27] at H
                 exact absurd H (by simp)
             · replace c26 := Bool.eq_false_iff.mpr c26
               subst c26
               have H1 : (dag_Base.l0 k2 t154 t160 (wrap64 (x10_2 - 1))) = some (r1, r2) := by rw [if_neg (show ¬ (false = true) by decide)] at H; exact H
               clear H; have H := H1; clear H1; have H' := Aside0.mk H; clear H; obtain ⟨Ao34, co34, eo34⟩ := Kd.R_slice HO_8.out; subst eo34; have p163 : 0 ≤ (x10_2 : Int) := of_decide_eq_true qD91; have q163 : x10_2 < (t154.length : Int) := of_decide_eq_true qD91; obtain ⟨ad163, e163, hx163_0⟩ := Kd.at_bool (Kd.R_reads' HO_8.out).2.2 x10_2 p163 q163
               (try rw [← Nbq25.out] at hx163_0)
               cases e163; replace p163 := eq_true p163; replace q163 := eq_true q163
               go_wp2
               go_roundg k2
               case measure => have := HJ3.out; have := HK2.out; omega
               case rel => exact ⟨(wrap64 (x10_2 - 1)), qD97, H', ⟨by have := HJ3.out; have := HK2.out; omega⟩, ⟨by (with_reducible repeat (first | apply Kd.R_alloc | apply Kd.R_drewN | apply Kd.R_drew)); exact HO_8.out⟩, ⟨by (with_reducible repeat (first | apply Kd.R_alloc | apply Kd.R_drewN | apply Kd.R_drew)); exact HO_9.out⟩, ⟨qD90⟩⟩
           · rw [if_neg c24] at H
             exact absurd H (by simp)
         · rw [if_neg c23] at H
           exact absurd H (by simp)
       · rw [if_neg c22] at H
         have c22b0 : decide (0 ≤ x10_2) = false := decide_eq_false c22; clear c22; simp only [Option.some.injEq, Prod.mk.injEq] at H; obtain ⟨rfl, rfl⟩ := H
         go_wp2
         go_ret2
         exact ⟨qD94, qD90⟩

/-! ### dag_Rev: function 37 -/
def dag_Rev.f (l0 : List (S43)) : Option ((List (S43))) := (some (([] : List (S43)) : List (S43))).bind fun y165 => (if y165.length + l0.length < 2513169434916 then (some (y165 ++ l0)) else (none))
set_option maxHeartbeats 8000000 in
set_option maxRecDepth 100000 in
theorem dag_Rev.calls (P0_ : Nat → Prop) (A0 : Option Addr) (c0 : Nat) (l0 : List (S43)) (r : List (S43)) (w : World) (hs0 : Kd.V k43 43 w w.heap.size (fun k_ => P0_ k_) (.slice A0 l0.length c0) l0) (h : dag_Rev.f l0 = some r) (HG : Aside0 (Laid w)) :
 Calls Tryd.prog 37 #[.slice A0 l0.length c0] w fun e w' => ∃ v0_ : Value, e = .returned (v0_) ∧ Kd.N k43 43 w' w.heap.size (fun k_ => (P0_ k_ ∨ w.heap.size ≤ k_)) v0_ r ∧ Below w.heap.size w w' := by
 have HO0 := Aside0.mk (show Kd.V k43 43 w w.heap.size (fun k_ => (P0_ k_ ∨ w.heap.size ≤ k_)) (.slice A0 l0.length c0) l0 from Kd.V_mono hs0 (fun k_ hk => .inl hk))
 have HB := Aside0.mk (Below.refl w.heap.size w)
 have H : ((some (([] : List (S43)) : List (S43))).bind fun y165 => (if y165.length + l0.length < 2513169434916 then (some (y165 ++ l0)) else (none))) = some r := h
 clear h; obtain ⟨y165, hy165⟩ : ∃ y_ : List (S43), y_ = (([] : List (S43))) := ⟨_, rfl⟩
 replace H : (if y165.length + l0.length < 2513169434916 then (some (y165 ++ l0)) else (none)) = some r := by first | (rw [hy165]; with_reducible exact H) | (have H2_ := (Option.bind_some _ _).symm.trans H; rw [hy165]; with_reducible exact H2_) | (have H2_ := (Option.bind_some _ _).symm.trans H; with_reducible exact H2_) | with_reducible exact H | (rw [hy165]; exact H) | exact H
 have Ny165 := Aside0.mk hy165; clear hy165
 by_cases c2 : y165.length + l0.length < 2513169434916
 · rw [if_pos c2] at H
   have LMc2 := Aside0.mk c2; clear c2; obtain ⟨y168, hy168⟩ : ∃ y_ : List (S43), y_ = (y165 ++ l0) := ⟨_, rfl⟩
   replace H : (some y168) = some r := by first | (rw [hy168]; with_reducible exact H) | (have H2_ := (Option.bind_some _ _).symm.trans H; rw [hy168]; with_reducible exact H2_) | (have H2_ := (Option.bind_some _ _).symm.trans H; with_reducible exact H2_) | with_reducible exact H | (rw [hy168]; exact H) | exact H
   have Ny168 := Aside0.mk hy168; clear hy168; obtain rfl := Option.some.inj H
   rcases A0 with _ | a0_
   · have e0_ : l0 = [] := by
      rcases Nat.eq_zero_or_pos l0.length with z_ | z_
      · exact List.length_eq_zero_iff.1 z_
      · first | (obtain ⟨a_, ha_, _⟩ := HR0.out.2.2 z_; cases ha_; done) | (obtain ⟨a_, ha_, _⟩ := (Kd.V_reads' HO0.out).2.2.2.2 z_; cases ha_; done)
     subst e0_
     obtain rfl : y168 = [] := by rw [Ny168.out, Ny165.out]; rfl
     have heq_ : ∀ w : World, (binOp BinOp.eql 22 (Value.slice none 0 c0) (Value.slice none 0 0)).run Tryd.prog w = .ok (.bool true) w := fun w => by kernel_rfl
     go_enter Tryd.func37, Tryd.ntmps37
     go_wp2
     go_ret
     exact ⟨_, rfl, qD96, HB.out⟩
   have heq_ : ∀ w : World, (binOp BinOp.eql 22 (Value.slice (some a0_) l0.length c0) (Value.slice none 0 0)).run Tryd.prog w = .ok (.bool false) w := fun w => by kernel_rfl
   go_enter Tryd.func37, Tryd.ntmps37
   go_wp2_with (first | ((with_reducible refine gate_dst (N := 5) rfl ?_); refine Kd.N_lit k43 _ 43 ?hg (N' := 5) ?hd (xs := ([] : List (S43))) (inner := []) (ok := (fun k_ => (P0_ k_ ∨ w.heap.size ≤ k_))) (okp := (fun k_ => (P0_ k_ ∨ w.heap.size ≤ k_))) ?hr ?hp (fun _ hk => hk) ((show ∀ k_, w.heap.size ≤ k_ → (fun k_ => (P0_ k_ ∨ w.heap.size ≤ k_)) k_ from fun k_ hk => (.inr (Nat.le_trans (below_size qD90) hk))) _ (Nat.le_refl _)) (Below.refl _ _) (Nat.le_refl _) (by simp) ?_; (case hd => rfl); (case hg => rfl); (case hr => exact qD910); (case hp => exact (Reps.none _ _)); intro v166 w3 ho4 hb hg_ hnew_; clear hg_ hnew_; (first | rw [← Ny165.out] at ho4 | (simp only [Int.reduceToNat] at ho4; rw [← Ny165.out] at ho4)); have n0_ := Aside0.mk (Kd.V_elder' (mVD9 HO0.out) (Kd.N_base ho4) hb); have n1_ := Aside0.mk (Kd.N_lower ho4 (below_size qD90)); have n2_ := Aside0.mk (below_step qD90 hb); clear HO0; clear HB; have HO0 := n0_; have HO167 := n1_; have HB := n2_; clear n0_ n1_ n2_; clear hb ho4) | ((with_reducible refine gate_builtin (b := .append) (xs := #[.tmp 5, .tmp 6]) rfl ?_); at_builtin; refine Kd.N_append_rows k43 (w0 := w) w.heap.size rfl (.tmp 5) (.tmp 6) 22 43 (.agg #[(.int .i64 0), (.string ⟨#[]⟩), (.int .i64 0), (.slice none 0 0)]) 56 rfl Tryd.underlying22 info43 rfl (by decide) (by omega) v166 y165 l0 _ _ _ (fun k_ => (P0_ k_ ∨ w.heap.size ≤ k_)) (fun k_ => ((fun k_ => (P0_ k_ ∨ w.heap.size ≤ k_))) k_ ∧ some k_ ≠ (v166 : Value).ownBlock) rfl rfl ?aO ?aR (fun _ hk => hk) ?aF ?aB ?aS ?aL ?_; (case aR => exact (by skip; exact Kd.V_F (Kd.V_mono (ok' := (fun k_ => ((fun k_ => (P0_ k_ ∨ w.heap.size ≤ k_))) k_ ∧ some k_ ≠ (v166 : Value).ownBlock)) (HO0.out) (fun k_ hk => ⟨hk.1, hk.2⟩)))); (case aB => exact qD90); (case aF => exact (fun k_ hk => (.inr (Nat.le_trans (below_size qD90) hk)))); (case aO => exact (mND9 HO167.out)); (case aS => exact (below_size qD90)); (case aL => have := LMc2.out; omega); intro v169 w5 ho hb hg hat; rw [← Ny168.out] at ho; have n0_ := Aside0.mk (Kd.V_afterv (ok := (fun k_ => (P0_ k_ ∨ w.heap.size ≤ k_))) (mVD9 HO0.out) hg hat); have n1_ := Aside0.mk (hb); have n2_ := Aside0.mk (ho); clear HO0; clear HB; clear HO167; have HO0 := n0_; have HB := n1_; have HO170 := n2_; clear n0_ n1_ n2_; clear ho hb hg hat))
   go_ret
   exact ⟨_, qD94, by (with_reducible repeat (first | apply Kd.N_alloc | apply Kd.N_drewN | apply Kd.N_drew)); exact HO170.out, qD90⟩
 · rw [if_neg c2] at H
   exact absurd H (by simp)

/-! ### slices_Clone_int_int: function 45 -/
def slices_Clone_int_int.f (l0 : List Int) : Option (List Int) := (some (([] : List Int) : List Int)).bind fun y171 => (if y171.length + l0.length < 17592186044416 then (some (y171 ++ l0)) else (none))
set_option maxHeartbeats 8000000 in
set_option maxRecDepth 100000 in
theorem slices_Clone_int_int.calls (A0 : Option Addr) (c0 : Nat) (l0 : List Int) (r : List Int) (w : World) (hr0 : Kd.C (Kd.int .i64) w A0 l0.length l0) (hc0 : l0.length ≤ c0) (h : slices_Clone_int_int.f l0 = some r) (HG : Aside0 (Laid w)) :
 Calls Tryd.prog 45 #[.slice A0 l0.length c0] w fun e w' => ∃ v0_ : Value, e = .returned (v0_) ∧ Kd.R (Kd.int .i64) 3 w' w.heap.size (fun _ => True) v0_ r ∧ Below w.heap.size w w' := by
 have HR0 := Aside0.mk hr0; have HC0 := Aside0.mk hc0; clear hr0 hc0; have HB := Aside0.mk (Below.refl w.heap.size w)
 have H : ((some (([] : List Int) : List Int)).bind fun y171 => (if y171.length + l0.length < 17592186044416 then (some (y171 ++ l0)) else (none))) = some r := h
 clear h; obtain ⟨y171, hy171⟩ : ∃ y_ : List Int, y_ = (([] : List Int)) := ⟨_, rfl⟩
 replace H : (if y171.length + l0.length < 17592186044416 then (some (y171 ++ l0)) else (none)) = some r := by first | (rw [hy171]; with_reducible exact H) | (have H2_ := (Option.bind_some _ _).symm.trans H; rw [hy171]; with_reducible exact H2_) | (have H2_ := (Option.bind_some _ _).symm.trans H; with_reducible exact H2_) | with_reducible exact H | (rw [hy171]; exact H) | exact H
 have Ny171 := Aside0.mk hy171; clear hy171
 by_cases c2 : y171.length + l0.length < 17592186044416
 · rw [if_pos c2] at H
   have LMc2 := Aside0.mk c2; clear c2; obtain ⟨y174, hy174⟩ : ∃ y_ : List Int, y_ = (y171 ++ l0) := ⟨_, rfl⟩
   replace H : (some y174) = some r := by first | (rw [hy174]; with_reducible exact H) | (have H2_ := (Option.bind_some _ _).symm.trans H; rw [hy174]; with_reducible exact H2_) | (have H2_ := (Option.bind_some _ _).symm.trans H; with_reducible exact H2_) | with_reducible exact H | (rw [hy174]; exact H) | exact H
   have Ny174 := Aside0.mk hy174; clear hy174; obtain rfl := Option.some.inj H
   rcases A0 with _ | a0_
   · have e0_ : l0 = [] := by
      rcases Nat.eq_zero_or_pos l0.length with z_ | z_
      · exact List.length_eq_zero_iff.1 z_
      · first | (obtain ⟨a_, ha_, _⟩ := HR0.out.2.2 z_; cases ha_; done) | (obtain ⟨a_, ha_, _⟩ := (Kd.V_reads' HO0.out).2.2.2.2 z_; cases ha_; done)
     subst e0_
     obtain rfl : y174 = [] := by rw [Ny174.out, Ny171.out]; rfl
     have heq_ : ∀ w : World, (binOp BinOp.eql 29 (Value.slice none 0 c0) (Value.slice none 0 0)).run Tryd.prog w = .ok (.bool true) w := fun w => by kernel_rfl
     go_enter Tryd.func45, Tryd.ntmps45
     go_wp2
     go_ret
     exact ⟨_, rfl, qD96, HB.out⟩
   have heq_ : ∀ w : World, (binOp BinOp.eql 29 (Value.slice (some a0_) l0.length c0) (Value.slice none 0 0)).run Tryd.prog w = .ok (.bool false) w := fun w => by kernel_rfl
   go_enter Tryd.func45, Tryd.ntmps45
   go_wp2_with (first | ((with_reducible refine gate_dst (N := 5) rfl ?_); refine Kd.R_lit (Kd.int .i64) _ 3 ?hg (N := 5) ?hd (xs := ([] : List Int)) (inner := []) (ok := fun _ => True) (okp := fun _ => True) ?hr ?hp (fun _ hk => hk) trivial (Below.refl _ _) (Nat.le_refl _) (by simp) ?_; (case hd => rfl); (case hg => rfl); (case hr => exact qD910); (case hp => exact (Reps.none _ _)); intro v172 w3 ho4 hb hg_ hnew_; clear hg_ hnew_; (first | rw [← Ny171.out] at ho4 | (simp only [Int.reduceToNat] at ho4; rw [← Ny171.out] at ho4)); have n0_ := Aside0.mk (Kd.R_lower ho4 (below_size qD90)); have n1_ := Aside0.mk (below_step qD90 hb); clear HB; have HO173 := n0_; have HB := n1_; clear n0_ n1_; clear hb ho4) | ((with_reducible refine gate_builtin (b := .append) (xs := #[.tmp 5, .tmp 6]) rfl ?_); at_builtin; refine Kd.R_append_rows (Kd.int .i64) (w0 := w) w.heap.size rfl (.tmp 5) (.tmp 6) 29 3 (.int .i64 0) 8 rfl Tryd.underlying29 info3 rfl (by decide) (by omega) v172 y171 l0 _ _ _ (fun _ => True) (fun _ => False) rfl rfl ?aO ?aR (fun _ _ h => h) (fun _ h => h.elim) ?aF ?aB ?aS ?aL ?_; (case aR => exact qD93); (case aB => exact qD90); (case aF => exact (fun _ _ => trivial)); (case aO => exact (mRD9 HO173.out)); (case aS => exact (below_size qD90)); (case aL => have := LMc2.out; omega); intro v175 w5 ho hb hg hat; rw [← Ny174.out] at ho; have n0_ := Aside0.mk (hb); have n1_ := Aside0.mk (ho); clear HB; clear HO173; have HB := n0_; have HO176 := n1_; clear n0_ n1_; clear ho hb hg hat))
   go_ret
   exact ⟨_, qD94, by (with_reducible repeat (first | apply Kd.R_alloc | apply Kd.R_drewN | apply Kd.R_drew)); exact HO176.out, qD90⟩
 · rw [if_neg c2] at H
   exact absurd H (by simp)

/-! ### dag_copied: function 36 -/
def dag_copied.l0 : Nat → List (S43) → Int → Int → Option ((List (S43)))
 | 0, _, _, _ => none
 | k + 1, x3, x8, x9 => if x9 < x8 then (if 0 ≤ x9 then (if x9 < (x3.length : Int) then ((slices_Clone_int_int.f ((rd_T43 x3 x9).f3)).bind fun t181 => (dag_copied.l0 k (x3.set (x9 : Int).toNat (⟨(rd_T43 x3 x9).f0, (rd_T43 x3 x9).f1, (rd_T43 x3 x9).f2, t181⟩ : S43)) x8 (wrap64 (x9 + 1)))) else (none)) else (none)) else (some x3)
def dag_copied.f (k : Nat) (l0 : List (S43)) : Option ((List (S43))) := (dag_Rev.f l0).bind fun t177 => (dag_copied.l0 k t177 (t177.length : Int) 0)
theorem dag_copied.mono_l : ∀ k, (∀ y0 y1 y2, LeO (dag_copied.l0 k y0 y1 y2) (dag_copied.l0 (k + 1) y0 y1 y2))
 | 0 => fun _ _ _ r h => by simp [dag_copied.l0] at h
 | k + 1 => by
  have ih0 := dag_copied.mono_l k
  · intro y0 y1 y2
    unfold dag_copied.l0
    repeat' first
    | (with_reducible exact ih0 _ _ _)
    | (with_reducible exact LeO.refl _)
    | (with_reducible exact LeO.none _)
    | (with_reducible refine LeO.ite ?_ ?_)
    | (with_reducible refine LeO.bind ?_ (fun _ => ?_))
    | exact ih0 _ _ _
    | exact LeO.none _
    | refine LeO.ite ?_ ?_
    | refine LeO.bind ?_ (fun _ => ?_)
theorem dag_copied.mono : ∀ a0 k, LeO (dag_copied.f k a0) (dag_copied.f (k + 1) a0) := by
 intro a0 k
 have ih0 := dag_copied.mono_l k; unfold dag_copied.f
 repeat' first
  | (with_reducible exact ih0 _ _ _)
  | (with_reducible exact LeO.refl _)
  | (with_reducible exact LeO.none _)
  | (with_reducible refine LeO.ite ?_ ?_)
  | (with_reducible refine LeO.bind ?_ (fun _ => ?_))
  | exact ih0 _ _ _
  | exact LeO.none _
  | refine LeO.ite ?_ ?_
  | refine LeO.bind ?_ (fun _ => ?_)
set_option maxHeartbeats 8000000 in
set_option maxRecDepth 100000 in
theorem dag_copied.calls (k : Nat) (P0_ : Nat → Prop) (A0 : Option Addr) (c0 : Nat) (l0 : List (S43)) (r : List (S43)) (w : World) (hs0 : Kd.V k43 43 w w.heap.size (fun k_ => P0_ k_) (.slice A0 l0.length c0) l0) (h : dag_copied.f k l0 = some r) (HG : Aside0 (Laid w)) :
 Calls Tryd.prog 36 #[.slice A0 l0.length c0] w fun e w' => ∃ v0_ : Value, e = .returned (v0_) ∧ Kd.N k43 43 w' w.heap.size (fun k_ => (P0_ k_ ∨ w.heap.size ≤ k_)) v0_ r ∧ Below w.heap.size w w' := by
 have HO0 := Aside0.mk (show Kd.V k43 43 w w.heap.size (fun k_ => (P0_ k_ ∨ w.heap.size ≤ k_)) (.slice A0 l0.length c0) l0 from Kd.V_mono hs0 (fun k_ hk => .inl hk))
 have HB := Aside0.mk (Below.refl w.heap.size w)
 have H : ((dag_Rev.f l0).bind fun t177 => (dag_copied.l0 k t177 (t177.length : Int) 0)) = some r := h
 clear h; replace H := Option.bind_eq_some_iff.mp H; obtain ⟨t177, A20, H⟩ := H; replace H : (dag_copied.l0 k t177 (t177.length : Int) 0) = some r := H; have A2 := Aside0.mk A20; clear A20; have H' := Aside0.mk H; clear H
 go_enter Tryd.func36, Tryd.ntmps36
 go_wp2_with (first | ((with_reducible refine gate_callee (f := 37) rfl ?_); refine goesL_ (some 6) rfl rfl Tryd.func37 (by kernel_rfl) rfl #[.slice A0 l0.length c0] rfl qD92 ?_; (with_reducible refine (dag_Rev.calls (fun k_ => (P0_ k_ ∨ w.heap.size ≤ k_)) _ _ l0 t177 _ ?side1 A2.out ?side2).mono ?_); (case side1 => exact HO0.out); (case side2 => exact qD913); rintro e w3 ⟨v178, rfl, ho0, hb⟩; refine ⟨_, rfl, ?_⟩; have n0_ := Aside0.mk (Kd.V_elder' (mVD9 HO0.out) (Kd.N_base ho0) hb); have n1_ := Aside0.mk (Kd.N_lower (Kd.N_mono (ok' := fun k_ => (P0_ k_ ∨ w.heap.size ≤ k_)) ho0 (fun k_ hk_ => Or.elim hk_ (fun hs_ => hs_) (fun hn_ => (.inr (Nat.le_trans (below_size qD90) hn_))))) (below_size qD90)); have n2_ := Aside0.mk (below_step qD90 hb); clear HO0; clear HB; have HO0 := n0_; have HO179 := n1_; have HB := n2_; clear n0_ n1_ n2_; (try clear hb); (try clear hb2); (try clear hk); (try clear hi); (try clear ho0); obtain ⟨Ao4, co4, eo4⟩ := Kd.N_slice HO179.out; subst eo4))
 go_loopg [9] k (fun kq v9 w' => ∃ (x3_1 : List (S43)) (x9_1 : Int), v9 = .int .i64 x9_1 ∧ Aside0 (dag_copied.l0 kq x3_1 (t177.length : Int) x9_1 = some r) ∧ Aside0 (kq ≤ k) ∧ Aside0 (Kd.N k43 43 w' w.heap.size (fun k_ => (P0_ k_ ∨ w.heap.size ≤ k_)) (.slice Ao4 t177.length co4) x3_1) ∧ Aside0 (Below w.heap.size w w'))
 case atStart => exact ⟨(t177), (0), qD97, H', ⟨Nat.le_refl _⟩, ⟨by (with_reducible repeat (first | apply Kd.N_alloc | apply Kd.N_drewN | apply Kd.N_drew)); exact HO179.out⟩, ⟨qD90⟩⟩
 case round =>
  clear H'; (try clear p2); (try clear c3); obtain ⟨x3_1, x9_1, rfl, HA, HK1, HO_3, HB⟩ := hrel; have hl3_1 := (Kd.N_reads' HO_3.out).1
  rw [hl3_1] at HO_3
  (try simp only [hl3_1])
  cases gk with
  | zero => exact absurd HA.out (by simp [dag_copied.l0])
  | succ k1 =>
   have H := HA.out; clear HA; simp only [dag_copied.l0] at H
   by_cases c5 : x9_1 < (t177.length : Int)
   · rw [if_pos c5] at H
     have c5b0 : decide (x9_1 < (t177.length : Int)) = true := decide_eq_true c5; clear c5
     by_cases c6 : 0 ≤ x9_1
     · rw [if_pos c6] at H
       have c6b0 : decide (0 ≤ x9_1) = true := decide_eq_true c6; clear c6
       by_cases c7 : x9_1 < (x3_1.length : Int)
       · rw [if_pos c7] at H
         have c7b0 : decide (x9_1 < (x3_1.length : Int)) = true := decide_eq_true c7; clear c7; replace H := Option.bind_eq_some_iff.mp H; obtain ⟨t181, A80, H⟩ := H; replace H : (dag_copied.l0 k1 (x3_1.set (x9_1 : Int).toNat (⟨(rd_T43 x3_1 x9_1).f0, (rd_T43 x3_1 x9_1).f1, (rd_T43 x3_1 x9_1).f2, t181⟩ : S43)) (t177.length : Int) (wrap64 (x9_1 + 1))) = some r := H; have A8 := Aside0.mk A80; clear A80; obtain ⟨y184, hy184⟩ : ∃ y_ : List (S43), y_ = (x3_1.set (x9_1 : Int).toNat (⟨(rd_T43 x3_1 x9_1).f0, (rd_T43 x3_1 x9_1).f1, (rd_T43 x3_1 x9_1).f2, t181⟩ : S43)) := ⟨_, rfl⟩
         replace H : (dag_copied.l0 k1 y184 (t177.length : Int) (wrap64 (x9_1 + 1))) = some r := by first | (rw [hy184]; with_reducible exact H) | (have H2_ := (Option.bind_some _ _).symm.trans H; rw [hy184]; with_reducible exact H2_) | (have H2_ := (Option.bind_some _ _).symm.trans H; with_reducible exact H2_) | with_reducible exact H | (rw [hy184]; exact H) | exact H
         have Ny184 := Aside0.mk hy184; clear hy184; have H' := Aside0.mk H; clear H; have p180 : 0 ≤ (x9_1 : Int) := of_decide_eq_true qD91; have q180 : x9_1 < (x3_1.length : Int) := of_decide_eq_true qD91; obtain ⟨ad180, A180_3, c180_3, e180, hx180_0, hx180_1, hx180_2, hx180_3, hl180_3, hi180_3⟩ := at_T43 (Kd.N_reads' HO_3.out).2.2 x9_1 p180 q180; cases e180; obtain ⟨ce180, hce180, hMe180, hcc180⟩ := Kd.N_get HO_3.out z43 x9_1 p180 (by first | exact q180 | exact of_decide_eq_true qD91 | (have e_ := (Kd.N_reads' HO_3.out).1; omega)); obtain ⟨ua180_3, uc180_3, rfl, ul180_3, ge180_3⟩ := k43_openF hMe180; have hv180_3 := hcc180 3 _ rfl
         rw [add_field _ _ 3 (by omega)] at hv180_3
         replace hv180_3 := Option.some.inj (hv180_3.symm.trans hx180_3)
         injection hv180_3 with hva_ hvn_ hvc_
         rw [hva_] at ge180_3
         rw [hvc_] at ul180_3
         have HL180_3 := Aside0.mk (show Kd.V (Kd.int .i64) 3 _ w.heap.size _ _ ((rd_T43 x3_1 x9_1).f3) from Kd.V_mk ul180_3 ge180_3); clear hva_ hvn_ hvc_ ge180_3 ul180_3; clear hcc180 hce180; have HR180_3 := Aside0.mk hi180_3; have HC180_3 := Aside0.mk hl180_3; clear hi180_3 hl180_3; replace p180 := eq_true p180; replace q180 := eq_true q180
         go_wp2_with (first | ((with_reducible refine gate_callee (f := 45) rfl ?_); refine goesL_ (some 19) rfl rfl Tryd.func45 (by kernel_rfl) rfl #[.slice A180_3 ((rd_T43 x3_1 x9_1).f3).length c180_3] rfl qD92 ?_; (with_reducible refine (slices_Clone_int_int.calls _ _ ((rd_T43 x3_1 x9_1).f3) t181 _ ?side1 ?side2 A8.out ?side3).mono ?_); (case side1 => exact qD914); (case side2 => exact HC180_3.out); (case side3 => exact qD913); rintro e w10 ⟨v182, rfl, ho0, hb⟩; refine ⟨_, rfl, ?_⟩; have n0_ := Aside0.mk (Kd.N_elder' (mND9 HO_3.out) (Kd.R_base ho0) hb); have n1_ := Aside0.mk (Kd.V_elder' (mVD9 HL180_3.out) (Kd.R_base ho0) hb); have n2_ := Aside0.mk (Kd.R_lower (Kd.R_newM (M := fun k_ => (w.heap.size ≤ k_)) ho0 (below_size qD90) (fun k_ h_ => h_)) (below_size qD90)); have n3_ := Aside0.mk (Kd.C_below qD95 hb); have n4_ := Aside0.mk (below_step qD90 hb); clear HO_3; clear HL180_3; clear HR180_3; clear HB; have HO_3 := n0_; have HL180_3 := n1_; have HO183 := n2_; have HR180_3 := n3_; have HB := n4_; clear n0_ n1_ n2_ n3_ n4_; obtain ⟨Az_, cz_, ez_⟩ := Kd.R_slice HO183.out; subst ez_; (try clear hb); (try clear hb2); (try clear hk); (try clear hi); (try clear ho0); have p9 : 0 ≤ (x9_1 : Int) := of_decide_eq_true qD91; have q9 : (x9_1 : Int) < ((x3_1.length : Int) : Int) := of_decide_eq_true qD91; obtain ⟨go9, co9, eo9, gb9, gl9, cl9, HG9⟩ := Kd.N_form HO_3.out (by omega); (first | cases eo9 | (injection eo9 with ea_ en_ ec_; (first | subst ea_ | (injection ea_ with ea_; subst ea_)); subst ec_; clear en_)); have GB9 := Aside0.mk gb9; have GG9 := Aside0.mk HG9; clear gb9 gl9 HG9; (first | simp only [add_plain] at hx180_0 | skip); (first | simp only [add_plain] at hx180_1 | skip); (first | simp only [add_plain] at hx180_2 | skip); (first | simp only [add_plain] at hx180_3 | skip); obtain ⟨ce9, hcl9, hM9, hcc9, hfr9⟩ := Kd.N_elem HO_3.out z43 (x9_1 : Int) p9 q9; obtain ⟨ua9_3, uc9_3, rfl, ul9_3, ge9_3⟩ := k43_openF hM9; have hx9_0 : w10.cell? ⟨go9, (x9_1 : Int).toNat * 4, none⟩ = some (.int .i64 ((rd_T43 x3_1 x9_1).f0)) := hcc9 0 _ rfl; have hx9_1 : w10.cell? ⟨go9, (x9_1 : Int).toNat * 4 + 1, none⟩ = some (.string ((rd_T43 x3_1 x9_1).f1)) := hcc9 1 _ rfl; have hx9_2 : w10.cell? ⟨go9, (x9_1 : Int).toNat * 4 + 2, none⟩ = some (.int .i64 ((rd_T43 x3_1 x9_1).f2)) := hcc9 2 _ rfl; have hx9_3 : w10.cell? ⟨go9, (x9_1 : Int).toNat * 4 + 3, none⟩ = some (.slice ua9_3 ((rd_T43 x3_1 x9_1).f3).length uc9_3) := hcc9 3 _ rfl; have hf9_0 : w10.frozen? ⟨go9, (x9_1 : Int).toNat * 4, none⟩ = false := hfr9 0; have hf9_1 : w10.frozen? ⟨go9, (x9_1 : Int).toNat * 4 + 1, none⟩ = false := hfr9 1; have hf9_2 : w10.frozen? ⟨go9, (x9_1 : Int).toNat * 4 + 2, none⟩ = false := hfr9 2; have hf9_3 : w10.frozen? ⟨go9, (x9_1 : Int).toNat * 4 + 3, none⟩ = false := hfr9 3; clear hcl9 hcc9 hfr9 hM9; replace p9 := eq_true p9; replace q9 := eq_true q9; have HX11 := Aside0.mk (show Kd.N k43 43 w10 w.heap.size (fun k_ => (P0_ k_ ∨ w.heap.size ≤ k_)) (.slice (some ⟨go9, 0, none⟩) x3_1.length co4) x3_1 from qD911); obtain ⟨ce11, hcl11, hM11, hcc11, hfr11⟩ := Kd.N_elem HX11.out z43 (x9_1 : Int) (of_decide_eq_true qD91) qD912; obtain ⟨ua11_3, uc11_3, rfl, ul11_3, ge11_3⟩ := k43_openF hM11; have HP11 := Kd.N_seg HX11.out (x9_1 : Int) (of_decide_eq_true qD91) qD912 (seg := [(Value.slice Az_ t181.length cz_)]) (j := 3) hcl11 hcc11 (show 4 ≤ 4 from by decide) (x' := (⟨(rd_T43 x3_1 x9_1).f0, (rd_T43 x3_1 x9_1).f1, (rd_T43 x3_1 x9_1).f2, t181⟩ : S43)) (k43_mkF _ _ (⟨(rd_T43 x3_1 x9_1).f0, (rd_T43 x3_1 x9_1).f1, (rd_T43 x3_1 x9_1).f2, t181⟩ : S43) (Kd.R_reads' (Kd.R_mono (ok' := (fun k_ => ((fun k_ => (P0_ k_ ∨ w.heap.size ≤ k_))) k_ ∧ k_ ≠ go9)) (Kd.R_apart' (HO183.out) (Kd.N_typed HO_3.out) (by decide)) (fun k_ hk => ⟨(.inr (hk.1.1)), fun e_ => (hk.2) (by rw [e_]; rfl)⟩))).2.1 (Kd.R_F (Kd.R_mono (ok' := (fun k_ => ((fun k_ => (P0_ k_ ∨ w.heap.size ≤ k_))) k_ ∧ k_ ≠ go9)) (Kd.R_apart' (HO183.out) (Kd.N_typed HO_3.out) (by decide)) (fun k_ hk => ⟨(.inr (hk.1.1)), fun e_ => (hk.2) (by rw [e_]; rfl)⟩)))) (fun _ hk => hk); have hx11_3 := hcc11 3 _ rfl; (try simp only [show (k43).sz = 4 from rfl, Nat.mul_one, Nat.add_zero] at hx11_3); have hf11_3 := hfr11 3; (try simp only [show (k43).sz = 4 from rfl, Nat.mul_one, Nat.add_zero] at hf11_3); clear hcl11 hcc11 hfr11 hM11) | ((with_reducible refine gate_store (t := 29) (p := 21) rfl ?_); refine store_event (t := 29) (p := 21) (v := ?vo_w12) (w1 := (w10.setCell ⟨go9, (x9_1 : Int).toNat * 4 + 3, none⟩ (Value.slice Az_ t181.length cz_))) ?hg ?ho ?hn ?hr ?_; (case ho => rfl); (case hg => rfl); (case hn => rfl); (case hr => exact qD910); intro w12 hw; have hg : w10.grownBy w12 (some go9) := (by rw [hw]; exact HP11.2); have hp_ : Kd.N k43 43 w12 w.heap.size (fun k_ => (P0_ k_ ∨ w.heap.size ≤ k_)) (.slice (some ⟨go9, 0, none⟩) x3_1.length co4) y184 := (by rw [hw, Ny184.out]; exact HP11.1); clear HP11; have n0_ := Aside0.mk (hp_); have n1_ := Aside0.mk (Kd.V_afterv (v := (.slice (some ⟨go9, 0, none⟩) x3_1.length co4)) (v1 := (.slice (some ⟨go9, 0, none⟩) x3_1.length co4)) (ok := (fun k_ => (P0_ k_ ∨ w.heap.size ≤ k_) ∧ some k_ ≠ (Value.slice Az_ t181.length cz_).ownBlock)) qD98 hg (.inl rfl)); have n2_ := Aside0.mk ((by rw [hw]; exact below_set (HB.out) GB9.out : Below w.heap.size w w12)); clear HO_3; clear HL180_3; clear HB; clear HO183; have HO_3 := n0_; have HL180_3 := n1_; have HB := n2_; clear n0_ n1_ n2_; clear hg hw hp_))
         (try simp only [← hl3_1])
         go_roundg k1
         case measure => have := HK1.out; omega
         case rel => exact ⟨(y184), (wrap64 (x9_1 + 1)), qD97, H', ⟨by have := HK1.out; omega⟩, ⟨by (try simp only [hl3_1]); (with_reducible repeat (first | apply Kd.N_alloc | apply Kd.N_drewN | apply Kd.N_drew)); exact HO_3.out⟩, ⟨qD90⟩⟩
       · rw [if_neg c7] at H
         exact absurd H (by simp)
     · rw [if_neg c6] at H
       exact absurd H (by simp)
   · rw [if_neg c5] at H
     have c5b0 : decide (x9_1 < (t177.length : Int)) = false := decide_eq_false c5
     try simp only [hl3_1] at c5b0
     clear c5; obtain rfl := Option.some.inj H
     go_wp2
     go_ret
     exact ⟨_, qD94, by (with_reducible repeat (first | apply Kd.N_alloc | apply Kd.N_drewN | apply Kd.N_drew)); exact HO_3.out, qD90⟩
/-- Of the first i elements the parents' rows are own ones. -/
def OwnTo (W : World) (base : Nat) (v : Value) (i : Nat) (xs : List S43) : Prop := ∀ go n cap, v = .slice (some ⟨go, 0, none⟩) n cap → ∀ j, j < i → j < xs.length → ∃ A c, W.cell? ⟨go, j * 4 + 3, none⟩ = some (.slice A (rd_T43 xs (j : Int)).f3.length c) ∧ (Kd.int .i64).R 3 W base (fun k => k ≠ go) (.slice A (rd_T43 xs (j : Int)).f3.length c) (rd_T43 xs (j : Int)).f3
theorem OwnTo.zero (W : World) (base : Nat) (v : Value) (xs : List S43) : OwnTo W base v 0 xs := fun _ _ _ _ j hj _ => absurd hj (Nat.not_lt_zero j)
theorem OwnTo.below {W W' : World} {base : Nat} {v : Value} {i : Nat} {xs : List S43} (h : OwnTo W base v i xs) (hb : Below W.heap.size W W') : OwnTo W' base v i xs := fun go n cap e j hj hl => by
 obtain ⟨A, c, hc, hr⟩ := h go n cap e j hj hl
 exact ⟨A, c, pw_cell_below hb hc, Kd.R_below hr hb⟩
theorem OwnTo.step {W : World} {base go n cap i : Nat} {xs : List S43} {A : Option Addr} {c : Nat} {t : List Int} {f0 : Int} {f1 : ByteArray} {f2 : Int} {u : Value} (h : OwnTo W base (.slice (some ⟨go, 0, none⟩) n cap) i xs) (hi : i < xs.length)
 (hR : (Kd.int .i64).R 3 W base (fun k => k ≠ go) (.slice A t.length c) t) (hu : W.cell? ⟨go, i * 4 + 3, none⟩ = some u) :
 OwnTo (W.setCell ⟨go, i * 4 + 3, none⟩ (.slice A t.length c)) base (.slice (some ⟨go, 0, none⟩) n cap) (i + 1) (xs.set i ⟨f0, f1, f2, t⟩) := by
 intro go' n' cap' e j hj hl
 injection e with e1
 injection e1 with e1
 injection e1 with e1
 subst e1
 rw [List.length_set] at hl
 by_cases q : j = i
 · subst q
   have e : rd_T43 (xs.set j ⟨f0, f1, f2, t⟩) (j : Int) = ⟨f0, f1, f2, t⟩ := by
    unfold rd_T43
    rw [Int.toNat_natCast, List.getD_eq_getElem?_getD, List.getElem?_set, if_pos rfl, if_pos hl]; rfl
   rw [e]
   exact ⟨A, c, World.cell?_setCell_same' _ _ _ (by rw [hu]; rfl), Kd.R_far hR (p := ⟨go, j * 4 + 3, none⟩) (fun k hk => hk) _⟩
 · obtain ⟨A', c', hc, hr⟩ := h go n cap rfl j (by omega) hl
   have e : rd_T43 (xs.set i ⟨f0, f1, f2, t⟩) (j : Int) = rd_T43 xs (j : Int) := by
    unfold rd_T43
    rw [Int.toNat_natCast, List.getD_eq_getElem?_getD, List.getElem?_set, if_neg (fun z => q z.symm), List.getD_eq_getElem?_getD]
   rw [e]
   refine ⟨A', c', ?_, Kd.R_far hr (p := ⟨go, i * 4 + 3, none⟩) (fun k hk => hk) _⟩
   exact (World.cell?_setCell_other _ _ _ _ (fun z => by injection z with _ z _; omega)).trans hc
theorem OwnTo.lower {W : World} {base base' : Nat} {v : Value} {i : Nat} {xs : List S43} (h : OwnTo W base v i xs) (hb : base' ≤ base) : OwnTo W base' v i xs := fun go n cap e j hj hl => by
 obtain ⟨A, c, hc, hr⟩ := h go n cap e j hj hl
 exact ⟨A, c, hc, Kd.R_lower hr hb⟩
set_option maxHeartbeats 8000000 in
set_option maxRecDepth 100000 in
theorem dag_copied.own (k : Nat) (P0_ : Nat → Prop) (A0 : Option Addr) (c0 : Nat) (l0 : List (S43)) (r : List (S43)) (w : World) (hs0 : Kd.V k43 43 w w.heap.size (fun k_ => P0_ k_) (.slice A0 l0.length c0) l0) (h : dag_copied.f k l0 = some r) (HG : Aside0 (Laid w)) :
 Calls Tryd.prog 36 #[.slice A0 l0.length c0] w fun e w' => ∃ v0_ : Value, e = .returned (v0_) ∧ Kd.N k43 43 w' w.heap.size (fun k_ => (P0_ k_ ∨ w.heap.size ≤ k_)) v0_ r ∧ Below w.heap.size w w' ∧ OwnTo w' w.heap.size v0_ r.length r := by
 have HO0 := Aside0.mk (show Kd.V k43 43 w w.heap.size (fun k_ => (P0_ k_ ∨ w.heap.size ≤ k_)) (.slice A0 l0.length c0) l0 from Kd.V_mono hs0 (fun k_ hk => .inl hk))
 have HB := Aside0.mk (Below.refl w.heap.size w)
 have H : ((dag_Rev.f l0).bind fun t177 => (dag_copied.l0 k t177 (t177.length : Int) 0)) = some r := h
 clear h; replace H := Option.bind_eq_some_iff.mp H; obtain ⟨t177, A20, H⟩ := H; replace H : (dag_copied.l0 k t177 (t177.length : Int) 0) = some r := H; have A2 := Aside0.mk A20; clear A20; have H' := Aside0.mk H; clear H
 go_enter Tryd.func36, Tryd.ntmps36
 go_wp2_with (first | ((with_reducible refine gate_callee (f := 37) rfl ?_); refine goesL_ (some 6) rfl rfl Tryd.func37 (by kernel_rfl) rfl #[.slice A0 l0.length c0] rfl qD92 ?_; (with_reducible refine (dag_Rev.calls (fun k_ => (P0_ k_ ∨ w.heap.size ≤ k_)) _ _ l0 t177 _ ?side1 A2.out ?side2).mono ?_); (case side1 => exact HO0.out); (case side2 => exact qD913); rintro e w3 ⟨v178, rfl, ho0, hb⟩; refine ⟨_, rfl, ?_⟩; have n0_ := Aside0.mk (Kd.V_elder' (mVD9 HO0.out) (Kd.N_base ho0) hb); have n1_ := Aside0.mk (Kd.N_lower (Kd.N_mono (ok' := fun k_ => (P0_ k_ ∨ w.heap.size ≤ k_)) ho0 (fun k_ hk_ => Or.elim hk_ (fun hs_ => hs_) (fun hn_ => (.inr (Nat.le_trans (below_size qD90) hn_))))) (below_size qD90)); have n2_ := Aside0.mk (below_step qD90 hb); clear HO0; clear HB; have HO0 := n0_; have HO179 := n1_; have HB := n2_; clear n0_ n1_ n2_; (try clear hb); (try clear hb2); (try clear hk); (try clear hi); (try clear ho0); obtain ⟨Ao4, co4, eo4⟩ := Kd.N_slice HO179.out; subst eo4))
 go_loopg [9] k (fun kq v9 w' => ∃ (x3_1 : List (S43)) (x9_1 : Int), v9 = .int .i64 x9_1 ∧ Aside0 (dag_copied.l0 kq x3_1 (t177.length : Int) x9_1 = some r) ∧ Aside0 (kq ≤ k) ∧ Aside0 (Kd.N k43 43 w' w.heap.size (fun k_ => (P0_ k_ ∨ w.heap.size ≤ k_)) (.slice Ao4 t177.length co4) x3_1) ∧ Aside0 (Below w.heap.size w w') ∧ Aside0 (OwnTo w' w.heap.size (.slice Ao4 t177.length co4) x9_1.toNat x3_1) ∧ Aside0 (0 ≤ x9_1 ∧ x9_1 ≤ (t177.length : Int)))
 case atStart => exact ⟨(t177), (0), qD97, H', ⟨Nat.le_refl _⟩, ⟨by (with_reducible repeat (first | apply Kd.N_alloc | apply Kd.N_drewN | apply Kd.N_drew)); exact HO179.out⟩, ⟨qD90⟩, ⟨OwnTo.zero _ _ _ _⟩, ⟨by omega⟩⟩
 case round =>
  clear H'; (try clear p2); (try clear c3); obtain ⟨x3_1, x9_1, rfl, HA, HK1, HO_3, HB, HX, HZ⟩ := hrel; have hbig9 := Aside0.mk (Kd.N_reads' HO_3.out).2.2.2.1; have hl3_1 := (Kd.N_reads' HO_3.out).1
  rw [hl3_1] at HO_3
  (try simp only [hl3_1])
  cases gk with
  | zero => exact absurd HA.out (by simp [dag_copied.l0])
  | succ k1 =>
   have H := HA.out; clear HA; simp only [dag_copied.l0] at H
   by_cases c5 : x9_1 < (t177.length : Int)
   · rw [if_pos c5] at H
     have c5b0 : decide (x9_1 < (t177.length : Int)) = true := decide_eq_true c5; clear c5
     by_cases c6 : 0 ≤ x9_1
     · rw [if_pos c6] at H
       have c6b0 : decide (0 ≤ x9_1) = true := decide_eq_true c6; clear c6
       by_cases c7 : x9_1 < (x3_1.length : Int)
       · rw [if_pos c7] at H
         have c7b0 : decide (x9_1 < (x3_1.length : Int)) = true := decide_eq_true c7; clear c7; replace H := Option.bind_eq_some_iff.mp H; obtain ⟨t181, A80, H⟩ := H; replace H : (dag_copied.l0 k1 (x3_1.set (x9_1 : Int).toNat (⟨(rd_T43 x3_1 x9_1).f0, (rd_T43 x3_1 x9_1).f1, (rd_T43 x3_1 x9_1).f2, t181⟩ : S43)) (t177.length : Int) (wrap64 (x9_1 + 1))) = some r := H; have A8 := Aside0.mk A80; clear A80; obtain ⟨y184, hy184⟩ : ∃ y_ : List (S43), y_ = (x3_1.set (x9_1 : Int).toNat (⟨(rd_T43 x3_1 x9_1).f0, (rd_T43 x3_1 x9_1).f1, (rd_T43 x3_1 x9_1).f2, t181⟩ : S43)) := ⟨_, rfl⟩
         replace H : (dag_copied.l0 k1 y184 (t177.length : Int) (wrap64 (x9_1 + 1))) = some r := by first | (rw [hy184]; with_reducible exact H) | (have H2_ := (Option.bind_some _ _).symm.trans H; rw [hy184]; with_reducible exact H2_) | (have H2_ := (Option.bind_some _ _).symm.trans H; with_reducible exact H2_) | with_reducible exact H | (rw [hy184]; exact H) | exact H
         have Ny184 := Aside0.mk hy184; clear hy184; have H' := Aside0.mk H; clear H; have p180 : 0 ≤ (x9_1 : Int) := of_decide_eq_true qD91; have q180 : x9_1 < (x3_1.length : Int) := of_decide_eq_true qD91; obtain ⟨ad180, A180_3, c180_3, e180, hx180_0, hx180_1, hx180_2, hx180_3, hl180_3, hi180_3⟩ := at_T43 (Kd.N_reads' HO_3.out).2.2 x9_1 p180 q180; cases e180; obtain ⟨ce180, hce180, hMe180, hcc180⟩ := Kd.N_get HO_3.out z43 x9_1 p180 (by first | exact q180 | exact of_decide_eq_true qD91 | (have e_ := (Kd.N_reads' HO_3.out).1; omega)); obtain ⟨ua180_3, uc180_3, rfl, ul180_3, ge180_3⟩ := k43_openF hMe180; have hv180_3 := hcc180 3 _ rfl
         rw [add_field _ _ 3 (by omega)] at hv180_3
         replace hv180_3 := Option.some.inj (hv180_3.symm.trans hx180_3)
         injection hv180_3 with hva_ hvn_ hvc_
         rw [hva_] at ge180_3
         rw [hvc_] at ul180_3
         have HL180_3 := Aside0.mk (show Kd.V (Kd.int .i64) 3 _ w.heap.size _ _ ((rd_T43 x3_1 x9_1).f3) from Kd.V_mk ul180_3 ge180_3); clear hva_ hvn_ hvc_ ge180_3 ul180_3; clear hcc180 hce180; have HR180_3 := Aside0.mk hi180_3; have HC180_3 := Aside0.mk hl180_3; clear hi180_3 hl180_3; replace p180 := eq_true p180; replace q180 := eq_true q180
         go_wp2_with (first | ((with_reducible refine gate_callee (f := 45) rfl ?_); refine goesL_ (some 19) rfl rfl Tryd.func45 (by kernel_rfl) rfl #[.slice A180_3 ((rd_T43 x3_1 x9_1).f3).length c180_3] rfl qD92 ?_; (with_reducible refine (slices_Clone_int_int.calls _ _ ((rd_T43 x3_1 x9_1).f3) t181 _ ?side1 ?side2 A8.out ?side3).mono ?_); (case side1 => exact qD914); (case side2 => exact HC180_3.out); (case side3 => exact qD913); rintro e w10 ⟨v182, rfl, ho0, hb⟩; refine ⟨_, rfl, ?_⟩; have nx_ := Aside0.mk (HX.out.below hb); clear HX; have HX := nx_; clear nx_; have n0_ := Aside0.mk (Kd.N_elder' (mND9 HO_3.out) (Kd.R_base ho0) hb); have n1_ := Aside0.mk (Kd.V_elder' (mVD9 HL180_3.out) (Kd.R_base ho0) hb); have n2_ := Aside0.mk (Kd.R_lower (Kd.R_newM (M := fun k_ => (w.heap.size ≤ k_)) ho0 (below_size qD90) (fun k_ h_ => h_)) (below_size qD90)); have n3_ := Aside0.mk (Kd.C_below qD95 hb); have n4_ := Aside0.mk (below_step qD90 hb); clear HO_3; clear HL180_3; clear HR180_3; clear HB; have HO_3 := n0_; have HL180_3 := n1_; have HO183 := n2_; have HR180_3 := n3_; have HB := n4_; clear n0_ n1_ n2_ n3_ n4_; obtain ⟨Az_, cz_, ez_⟩ := Kd.R_slice HO183.out; subst ez_; (try clear hb); (try clear hb2); (try clear hk); (try clear hi); (try clear ho0); have p9 : 0 ≤ (x9_1 : Int) := of_decide_eq_true qD91; have q9 : (x9_1 : Int) < ((x3_1.length : Int) : Int) := of_decide_eq_true qD91; obtain ⟨go9, co9, eo9, gb9, gl9, cl9, HG9⟩ := Kd.N_form HO_3.out (by omega); (first | cases eo9 | (injection eo9 with ea_ en_ ec_; (first | subst ea_ | (injection ea_ with ea_; subst ea_)); subst ec_; clear en_)); have GB9 := Aside0.mk gb9; have GG9 := Aside0.mk HG9; clear gb9 gl9 HG9; (first | simp only [add_plain] at hx180_0 | skip); (first | simp only [add_plain] at hx180_1 | skip); (first | simp only [add_plain] at hx180_2 | skip); (first | simp only [add_plain] at hx180_3 | skip); obtain ⟨ce9, hcl9, hM9, hcc9, hfr9⟩ := Kd.N_elem HO_3.out z43 (x9_1 : Int) p9 q9; obtain ⟨ua9_3, uc9_3, rfl, ul9_3, ge9_3⟩ := k43_openF hM9; have hx9_0 : w10.cell? ⟨go9, (x9_1 : Int).toNat * 4, none⟩ = some (.int .i64 ((rd_T43 x3_1 x9_1).f0)) := hcc9 0 _ rfl; have hx9_1 : w10.cell? ⟨go9, (x9_1 : Int).toNat * 4 + 1, none⟩ = some (.string ((rd_T43 x3_1 x9_1).f1)) := hcc9 1 _ rfl; have hx9_2 : w10.cell? ⟨go9, (x9_1 : Int).toNat * 4 + 2, none⟩ = some (.int .i64 ((rd_T43 x3_1 x9_1).f2)) := hcc9 2 _ rfl; have hx9_3 : w10.cell? ⟨go9, (x9_1 : Int).toNat * 4 + 3, none⟩ = some (.slice ua9_3 ((rd_T43 x3_1 x9_1).f3).length uc9_3) := hcc9 3 _ rfl; have hf9_0 : w10.frozen? ⟨go9, (x9_1 : Int).toNat * 4, none⟩ = false := hfr9 0; have hf9_1 : w10.frozen? ⟨go9, (x9_1 : Int).toNat * 4 + 1, none⟩ = false := hfr9 1; have hf9_2 : w10.frozen? ⟨go9, (x9_1 : Int).toNat * 4 + 2, none⟩ = false := hfr9 2; have hf9_3 : w10.frozen? ⟨go9, (x9_1 : Int).toNat * 4 + 3, none⟩ = false := hfr9 3; clear hcl9 hcc9 hfr9 hM9; have nx_ := Aside0.mk (OwnTo.step (f0 := (rd_T43 x3_1 x9_1).f0) (f1 := (rd_T43 x3_1 x9_1).f1) (f2 := (rd_T43 x3_1 x9_1).f2) HX.out (i := (x9_1 : Int).toNat) (by omega) (Kd.R_mono (Kd.R_apart' (HO183.out) (Kd.N_typed HO_3.out) (by decide)) (fun k_ hk => fun e_ => (hk.2) (by rw [e_]; rfl))) hx9_3); clear HX; have HX := nx_; clear nx_; replace p9 := eq_true p9; replace q9 := eq_true q9; have HX11 := Aside0.mk (show Kd.N k43 43 w10 w.heap.size (fun k_ => (P0_ k_ ∨ w.heap.size ≤ k_)) (.slice (some ⟨go9, 0, none⟩) x3_1.length co4) x3_1 from qD911); obtain ⟨ce11, hcl11, hM11, hcc11, hfr11⟩ := Kd.N_elem HX11.out z43 (x9_1 : Int) (of_decide_eq_true qD91) qD912; obtain ⟨ua11_3, uc11_3, rfl, ul11_3, ge11_3⟩ := k43_openF hM11; have HP11 := Kd.N_seg HX11.out (x9_1 : Int) (of_decide_eq_true qD91) qD912 (seg := [(Value.slice Az_ t181.length cz_)]) (j := 3) hcl11 hcc11 (show 4 ≤ 4 from by decide) (x' := (⟨(rd_T43 x3_1 x9_1).f0, (rd_T43 x3_1 x9_1).f1, (rd_T43 x3_1 x9_1).f2, t181⟩ : S43)) (k43_mkF _ _ (⟨(rd_T43 x3_1 x9_1).f0, (rd_T43 x3_1 x9_1).f1, (rd_T43 x3_1 x9_1).f2, t181⟩ : S43) (Kd.R_reads' (Kd.R_mono (ok' := (fun k_ => ((fun k_ => (P0_ k_ ∨ w.heap.size ≤ k_))) k_ ∧ k_ ≠ go9)) (Kd.R_apart' (HO183.out) (Kd.N_typed HO_3.out) (by decide)) (fun k_ hk => ⟨(.inr (hk.1.1)), fun e_ => (hk.2) (by rw [e_]; rfl)⟩))).2.1 (Kd.R_F (Kd.R_mono (ok' := (fun k_ => ((fun k_ => (P0_ k_ ∨ w.heap.size ≤ k_))) k_ ∧ k_ ≠ go9)) (Kd.R_apart' (HO183.out) (Kd.N_typed HO_3.out) (by decide)) (fun k_ hk => ⟨(.inr (hk.1.1)), fun e_ => (hk.2) (by rw [e_]; rfl)⟩)))) (fun _ hk => hk); have hx11_3 := hcc11 3 _ rfl; (try simp only [show (k43).sz = 4 from rfl, Nat.mul_one, Nat.add_zero] at hx11_3); have hf11_3 := hfr11 3; (try simp only [show (k43).sz = 4 from rfl, Nat.mul_one, Nat.add_zero] at hf11_3); clear hcl11 hcc11 hfr11 hM11) | ((with_reducible refine gate_store (t := 29) (p := 21) rfl ?_); refine store_event (t := 29) (p := 21) (v := ?vo_w12) (w1 := (w10.setCell ⟨go9, (x9_1 : Int).toNat * 4 + 3, none⟩ (Value.slice Az_ t181.length cz_))) ?hg ?ho ?hn ?hr ?_; (case ho => rfl); (case hg => rfl); (case hn => rfl); (case hr => exact qD910); intro w12 hw; have hg : w10.grownBy w12 (some go9) := (by rw [hw]; exact HP11.2); have hp_ : Kd.N k43 43 w12 w.heap.size (fun k_ => (P0_ k_ ∨ w.heap.size ≤ k_)) (.slice (some ⟨go9, 0, none⟩) x3_1.length co4) y184 := (by rw [hw, Ny184.out]; exact HP11.1); clear HP11; have n0_ := Aside0.mk (hp_); have n1_ := Aside0.mk (Kd.V_afterv (v := (.slice (some ⟨go9, 0, none⟩) x3_1.length co4)) (v1 := (.slice (some ⟨go9, 0, none⟩) x3_1.length co4)) (ok := (fun k_ => (P0_ k_ ∨ w.heap.size ≤ k_) ∧ some k_ ≠ (Value.slice Az_ t181.length cz_).ownBlock)) qD98 hg (.inl rfl)); have n2_ := Aside0.mk ((by rw [hw]; exact below_set (HB.out) GB9.out : Below w.heap.size w w12)); clear HO_3; clear HL180_3; clear HB; have nx_ := HX; clear HX; rw [← hw, ← Ny184.out] at nx_; have HX := nx_; clear nx_; clear HO183; have HO_3 := n0_; have HL180_3 := n1_; have HB := n2_; clear n0_ n1_ n2_; clear hg hw hp_))
         (try simp only [← hl3_1])
         go_roundg k1
         case measure => have := HK1.out; omega
         case rel =>
          have hz_ : (wrap64 (x9_1 + 1)).toNat = x9_1.toNat + 1 ∧ 0 ≤ wrap64 (x9_1 + 1) ∧ wrap64 (x9_1 + 1) ≤ (t177.length : Int) := by
           have := HZ.out; have := hbig9.out; have := of_decide_eq_true c5b0; unfold wrap64
           omega
          exact ⟨(y184), (wrap64 (x9_1 + 1)), qD97, H', ⟨by have := HK1.out; omega⟩, ⟨by (try simp only [hl3_1]); (with_reducible repeat (first | apply Kd.N_alloc | apply Kd.N_drewN | apply Kd.N_drew)); exact HO_3.out⟩, ⟨qD90⟩, ⟨by rw [hz_.1]; first | exact HX.out | (rw [hl3_1] at HX; exact HX.out)⟩, ⟨hz_.2⟩⟩
       · rw [if_neg c7] at H
         exact absurd H (by simp)
     · rw [if_neg c6] at H
       exact absurd H (by simp)
   · rw [if_neg c5] at H
     have c5b0 : decide (x9_1 < (t177.length : Int)) = false := decide_eq_false c5
     try simp only [hl3_1] at c5b0
     clear c5; obtain rfl := Option.some.inj H
     go_wp2
     go_ret
     exact ⟨_, qD94, by (with_reducible repeat (first | apply Kd.N_alloc | apply Kd.N_drewN | apply Kd.N_drew)); exact HO_3.out, qD90, by have hz_ := HZ.out; have hc_ := of_decide_eq_false c5b0; have e_ : x9_1.toNat = x3_1.length := (by omega); have hx_ := HX.out; rw [e_] at hx_; (try simp only [hl3_1] at hx_); exact hx_⟩

end Go.Proofs.YtgopimjfoppkmaaDoor.D
