/- What the code of this statement does, over values that stand for data: an executor of the model's code, that it is sound, and contracts of functions: part 6. No condition is added to the statement. -/
import Derived.Test.YtnhipiedjekkpaaGreatDoorMD5
import Derived.ChangeArms
import Derived.SizedLaws
import Derived.Test.YtnhipiedjekkpaaGreatDoorRows
import Derived.ProofKit
import Derived.LaidMore
import Derived.OpenShut
import Derived.Stop.Joined
import Derived.Deep.Strs
import Derived.Shelf.Vars
set_option linter.unusedVariables false
set_option linter.unusedSimpArgs false
section
namespace Go.Proofs.YtnhipiedjekkpaaGreatDoor.AXP
open Go Go.Proofs.YtnhipiedjekkpaaGreatDoor.AX
theorem bl_kb (s : ByteArray) : bl s = (kb s).map fun b => (b.toNat : Int) := rfl
theorem bl_inj {a b : ByteArray} (h : bl a = bl b) : a = b := by
  rw [bl_kb, bl_kb] at h
  exact kb_inj ((List.map_inj_right (fun x y q => UInt8.toNat_inj.1 (by omega))).1 h)
theorem bl_encS {c : Int} (h : isC c = true) : bl (encS c) = encB c := by
  rw [bl_kb]
  unfold encS
  rw [kb_bk, List.map_map]
  have hr := encB_range h
  have : ∀ l : List Int, (∀ x ∈ l, 0 ≤ x ∧ x ≤ 255) → l.map ((fun b : UInt8 => (b.toNat : Int)) ∘ fun x => UInt8.ofNat x.toNat) = l := by
    intro l
    induction l with
    | nil => intro _; rfl
    | cons x l ih =>
      intro hl
      have hx := hl x (.head _)
      rw [List.map_cons, ih fun y hy => hl y (.tail _ hy)]
      congr 1
      show ((UInt8.ofNat x.toNat).toNat : Int) = x
      rw [u8_of (by omega)]; omega
  exact this _ hr
theorem encS_size (c : Int) : (encS c).size = (encB c).length := by unfold encS; rw [bk_size, List.length_map]
end Go.Proofs.YtnhipiedjekkpaaGreatDoor.AXP
namespace Go.Proofs.YtnhipiedjekkpaaGreatDoor.AX
open Go AXP
set_option maxRecDepth 100000
def at2T (s : ByteArray) (i : Int) (Q : List AV → List Blk → List Blk → Prop) (c : Int) : Prop :=
  Br (!isC c) (Q [AV.agg [AV.int IntKind.i64 (65533 : Int), AV.int IntKind.i64 (1 : Int), AV.bool false]] [] [])
    (Rq (isC c = true)
      (Br (decide (IntKind.i64.wrap ((s.size : Int) - i) < ((encS c).size : Int)))
        (Gv (s.size ≤ maxSl) (Gv ((encS c).size ≤ maxSl) (Q [AV.agg [AV.int IntKind.i64 (65533 : Int), AV.int IntKind.i64 (1 : Int), AV.bool false]] [] [])))
        (Rq ((0 : Int) ≤ i ∧ i ≤ IntKind.i64.wrap (i + ((encS c).size : Int)) ∧ IntKind.i64.wrap (i + ((encS c).size : Int)) ≤ (s.size : Int))
          (Gv (s.size ≤ maxSl) (Gv ((encS c).size ≤ maxSl) (Gv ((encS c).size ≤ maxSl)
            (Br (!eqS (s.extract i.toNat (IntKind.i64.wrap (i + ((encS c).size : Int))).toNat) (encS c))
              (Q [AV.agg [AV.int IntKind.i64 (65533 : Int), AV.int IntKind.i64 (1 : Int), AV.bool false]] [] [])
              (Gv ((encS c).size ≤ maxSl) (Q [AV.agg [AV.int IntKind.i64 c, AV.int IntKind.i64 ((encS c).size : Int), AV.bool true]] [] [])))))))))
def at2b (s : ByteArray) (i : Int) : Int := IntKind.i64.wrap ((s.get! i.toNat).toNat : Int)
def at2l (s : ByteArray) (i j : Int) : Int := lowB s (IntKind.i64.wrap (i + j))
def at2n3 (s : ByteArray) (i : Int) (Q : List AV → List Blk → List Blk → Prop) : Prop :=
  Br (decide (at2b s i ≥ (240 : Int))) (Br (decide (at2b s i < (248 : Int))) (Br (decide (at2l s i 1 ≥ (0 : Int))) (Br (decide (at2l s i 2 ≥ (0 : Int))) (Br (decide (at2l s i 3 ≥ (0 : Int)))
    (at2T s i Q (IntKind.i64.wrap (IntKind.i64.wrap (IntKind.i64.wrap (IntKind.i64.wrap ((262144 : Int) * IntKind.i64.wrap (at2b s i - (240 : Int))) + IntKind.i64.wrap ((4096 : Int) * at2l s i 1)) + IntKind.i64.wrap ((64 : Int) * at2l s i 2)) + at2l s i 3)))
    (at2T s i Q (-1))) (at2T s i Q (-1))) (at2T s i Q (-1))) (at2T s i Q (-1))) (at2T s i Q (-1))
def at2n2 (s : ByteArray) (i : Int) (Q : List AV → List Blk → List Blk → Prop) : Prop :=
  Br (decide (at2b s i ≥ (224 : Int))) (Br (decide (at2b s i < (240 : Int))) (Br (decide (at2l s i 1 ≥ (0 : Int))) (Br (decide (at2l s i 2 ≥ (0 : Int)))
    (at2T s i Q (IntKind.i64.wrap (IntKind.i64.wrap (IntKind.i64.wrap ((4096 : Int) * IntKind.i64.wrap (at2b s i - (224 : Int))) + IntKind.i64.wrap ((64 : Int) * at2l s i 1)) + at2l s i 2)))
    (at2n3 s i Q)) (at2n3 s i Q)) (at2n3 s i Q)) (at2n3 s i Q)
def at2n1 (s : ByteArray) (i : Int) (Q : List AV → List Blk → List Blk → Prop) : Prop :=
  Br (decide (at2b s i ≥ (192 : Int))) (Br (decide (at2b s i < (224 : Int))) (Br (decide (at2l s i 1 ≥ (0 : Int)))
    (at2T s i Q (IntKind.i64.wrap (IntKind.i64.wrap ((64 : Int) * IntKind.i64.wrap (at2b s i - (192 : Int))) + at2l s i 1)))
    (at2n2 s i Q)) (at2n2 s i Q)) (at2n2 s i Q)
theorem vcAt2F (s : ByteArray) (i : Int) (Q : List AV → List Blk → List Blk → Prop) : (funA cxAt2 (LL Tryz.f146 []) Tryz.f146 [.str s, .int .i64 i] [] [] Q) = (
    Rq ((0 : Int) ≤ i ∧ i < (s.size : Int)) (Rq ((0 : Int) ≤ IntKind.i64.wrap (i + (1 : Int))) (Rq ((0 : Int) ≤ IntKind.i64.wrap (i + (2 : Int))) (Rq ((0 : Int) ≤ IntKind.i64.wrap (i + (3 : Int)))
      (Br (decide (at2b s i < (128 : Int))) (at2T s i Q (at2b s i)) (at2n1 s i Q)))))) := by kernel_rfl
theorem at2T_ok {s : ByteArray} {i : Nat} (h : i < s.size) (hs : s.size ≤ 1000000) (Q : List AV → List Blk → List Blk → Prop) (c : Int)
    (hQ : ∀ r : Int × Int × Bool, uSt ((bl s).drop i) c = r → Q [AV.agg [AV.int IntKind.i64 r.1, AV.int IntKind.i64 r.2.1, AV.bool r.2.2]] [] []) : at2T s i Q c := by
  have hl : ((bl s).drop i).length = s.size - i := by rw [List.length_drop, bl_length]
  unfold at2T
  refine Br.mk (fun h1 => hQ uBad ?_) fun h1 => ?_
  · have h1 : ¬ isC c = true := by simpa using h1
    exact uSt_no h1
  have h1 : isC c = true := by simpa using h1
  have hz := encS_size c
  have hen := encB_length c
  have e1 : IntKind.i64.wrap ((s.size : Int) - (i : Int)) = ((s.size - i : Nat) : Int) := by rw [wrap_id'] <;> omega
  have e2 : IntKind.i64.wrap ((i : Int) + ((encS c).size : Int)) = ((i + (encS c).size : Nat) : Int) := by rw [wrap_id'] <;> omega
  rw [e1, e2]
  refine Rq.mk h1 (Br.mk (fun h2 => Gv.mk fun _ => Gv.mk fun _ => hQ uBad ?_) fun h2 => ?_)
  · have h2 := of_decide_eq_true h2
    unfold uSt
    rw [if_neg]
    rintro ⟨_, q⟩
    have := congrArg List.length q
    rw [List.length_take, hl] at this
    omega
  have h2 := of_decide_eq_false h2
  refine Rq.mk ⟨by omega, by omega, by omega⟩ (Gv.mk fun _ => Gv.mk fun _ => Gv.mk fun _ => ?_)
  rw [Int.toNat_natCast, Int.toNat_natCast]
  have hx : eqS (s.extract i (i + (encS c).size)) (encS c) = true ↔ ((bl s).drop i).take (encB c).length = encB c := by
    rw [eqS_iff]
    constructor
    · intro q
      have := congrArg bl q
      rw [bl_extract, bl_encS h1, hz, Nat.add_sub_cancel_left] at this
      exact this
    · intro q
      apply bl_inj
      rw [bl_extract, bl_encS h1, hz, Nat.add_sub_cancel_left]
      exact q
  refine Br.mk (fun h3 => hQ uBad ?_) fun h3 => Gv.mk fun _ => hQ (c, ((encS c).size : Int), true) ?_
  · have h3 : ¬ eqS (s.extract i (i + (encS c).size)) (encS c) = true := by simpa using h3
    unfold uSt
    rw [if_neg fun q => h3 (hx.2 q.2)]
  · have h3 : eqS (s.extract i (i + (encS c).size)) (encS c) = true := by simpa using h3
    unfold uSt
    rw [if_pos ⟨h1, hx.1 h3⟩, hz]
theorem at2_holds : Holds 146 conAt2 := conP_holds fun s i => by
  rcases (show ∃ w : ByteArray, w = s from ⟨_, rfl⟩) with ⟨s, rfl⟩
  rcases (show ∃ w : Int, w = i from ⟨_, rfl⟩) with ⟨i, rfl⟩
  refine fun_meets0 (AllH.tok (.cons is2_holds (by kernel_rfl) (.cons by2_holds (by kernel_rfl) (.cons low_holds (by kernel_rfl) .nil)))) [] (by kernel_rfl) (by kernel_rfl) fun hpre => Eq.mpr (vcAt2F s i _) ?_
  obtain ⟨h0, hi, hs⟩ : 0 ≤ i ∧ i < s.size ∧ s.size ≤ 1000000 := hpre _ rfl
  obtain ⟨i, rfl⟩ := Int.eq_ofNat_of_zero_le h0
  have hi : i < s.size := by omega
  have w1 : IntKind.i64.wrap ((i : Int) + 1) = ((i + 1 : Nat) : Int) := by rw [wrap_id'] <;> omega
  have w2 : IntKind.i64.wrap ((i : Int) + 2) = ((i + 2 : Nat) : Int) := by rw [wrap_id'] <;> omega
  have w3 : IntKind.i64.wrap ((i : Int) + 3) = ((i + 3 : Nat) : Int) := by rw [wrap_id'] <;> omega
  refine Rq.mk ⟨h0, by omega⟩ (Rq.mk (by rw [w1]; omega) (Rq.mk (by rw [w2]; omega) (Rq.mk (by rw [w3]; omega) ?_)))
  have x0 : at2b s i = ((bl s).drop i).getD 0 (-1) := by
    have hb : (s.get! i).toNat < 256 := UInt8.toNat_lt _
    unfold at2b
    rw [drop_getD, Nat.add_zero, bl_at hi, Int.toNat_natCast, wrap_id'] <;> omega
  have xj : ∀ j : Nat, IntKind.i64.wrap ((i : Int) + (j : Int)) = ((i + j : Nat) : Int) → at2l s i j = if ct (((bl s).drop i).getD j (-1)) = true then ((bl s).drop i).getD j (-1) - 128 else -1 := fun j hj => by
    unfold at2l lowB
    rw [hj, Int.toNat_natCast, drop_getD]
  have x1 := xj 1 w1
  have x2 := xj 2 w2
  have x3 := xj 3 w3
  have r0 : 0 ≤ ((bl s).drop i).getD 0 (-1) ∧ ((bl s).drop i).getD 0 (-1) ≤ 255 := by
    have hb : (s.get! i).toNat < 256 := UInt8.toNat_lt _
    rw [drop_getD, Nat.add_zero, bl_at hi]; omega
  have key : ∀ c, c = cOf (((bl s).drop i).getD 0 (-1)) (((bl s).drop i).getD 1 (-1)) (((bl s).drop i).getD 2 (-1)) (((bl s).drop i).getD 3 (-1)) → at2T s i (FinQ { pre := some (0 ≤ (i : Int) ∧ (i : Int) < s.size ∧ s.size ≤ 1000000), res := .agg [.int .i64 (gA s i).1, .int .i64 (gA s i).2.1, .bool (gA s i).2.2] }) c := fun c hc => by
    refine at2T_ok hi hs _ c fun r hr => ?_
    rw [hc, uSt_cOf r0.1] at hr
    have : gA s i = r := by unfold gA; rw [Int.toNat_natCast]; exact hr
    rw [this]
    exact qfin rfl rfl rfl rfl
  unfold at2n1 at2n2 at2n3
  change at2l s i 1 = _ at x1
  change at2l s i 2 = _ at x2
  change at2l s i 3 = _ at x3
  rw [x0, x1, x2, x3]
  generalize ((bl s).drop i).getD 0 (-1) = b0 at *
  generalize ((bl s).drop i).getD 1 (-1) = b1 at *
  generalize ((bl s).drop i).getD 2 (-1) = b2 at *
  generalize ((bl s).drop i).getD 3 (-1) = b3 at *
  clear x0 x1 x2 x3 xj
  have w : ∀ x : Int, -10000000 ≤ x → x ≤ 10000000 → IntKind.i64.wrap x = x := fun x h0 h1 => wrap_id' (by omega) (by omega)
  have lt : ∀ b : Int, (if ct b = true then b - 128 else -1) ≥ 0 ↔ ct b = true := fun b => by
    by_cases q : ct b = true
    · rw [if_pos q]
      have := ct_iff.1 q
      exact ⟨fun _ => q, fun _ => by omega⟩
    · rw [if_neg q]
      exact ⟨fun h => absurd h (by decide), fun h => absurd h q⟩
  have lp : ∀ b : Int, ct b = true → (if ct b = true then b - 128 else -1) = b - 128 ∧ 0 ≤ b - 128 ∧ b - 128 ≤ 63 := fun b q => by
    have := ct_iff.1 q
    exact ⟨if_pos q, by omega, by omega⟩
  unfold cOf at key
  refine Br.mk (fun a1 => key _ ?_) fun a1 => ?_
  · rw [if_pos (of_decide_eq_true a1)]
  have a1 := of_decide_eq_false a1
  rw [if_neg a1] at key
  have n3 : ¬ (192 ≤ b0 ∧ b0 < 224 ∧ ct b1 = true) → ¬ (224 ≤ b0 ∧ b0 < 240 ∧ ct b1 = true ∧ ct b2 = true) → Br (decide (b0 ≥ (240 : Int))) (Br (decide (b0 < (248 : Int))) (Br (decide ((if ct b1 = true then b1 - 128 else -1) ≥ (0 : Int))) (Br (decide ((if ct b2 = true then b2 - 128 else -1) ≥ (0 : Int))) (Br (decide ((if ct b3 = true then b3 - 128 else -1) ≥ (0 : Int)))
    (at2T s i _ (IntKind.i64.wrap (IntKind.i64.wrap (IntKind.i64.wrap (IntKind.i64.wrap ((262144 : Int) * IntKind.i64.wrap (b0 - (240 : Int))) + IntKind.i64.wrap ((4096 : Int) * (if ct b1 = true then b1 - 128 else -1))) + IntKind.i64.wrap ((64 : Int) * (if ct b2 = true then b2 - 128 else -1))) + (if ct b3 = true then b3 - 128 else -1))))
    (at2T s i _ (-1))) (at2T s i _ (-1))) (at2T s i _ (-1))) (at2T s i _ (-1))) (at2T s i _ (-1)) := fun q1 q2 => by
    rw [if_neg q1, if_neg q2] at key
    have no : ¬ (240 ≤ b0 ∧ b0 < 248 ∧ ct b1 = true ∧ ct b2 = true ∧ ct b3 = true) → at2T s i _ (-1) := fun g => key _ (by rw [if_neg g])
    refine Br.mk (fun d1 => Br.mk (fun d2 => Br.mk (fun d3 => Br.mk (fun d4 => Br.mk (fun d5 => key _ ?_) fun d5 => no fun g => ?_) fun d4 => no fun g => ?_) fun d3 => no fun g => ?_) fun d2 => no fun g => ?_) fun d1 => no fun g => ?_
    · have d1 := of_decide_eq_true d1
      have d2 := of_decide_eq_true d2
      have d3 := (lt b1).1 (of_decide_eq_true d3)
      have d4 := (lt b2).1 (of_decide_eq_true d4)
      have d5 := (lt b3).1 (of_decide_eq_true d5)
      obtain ⟨e3, f3, g3⟩ := lp b1 d3
      obtain ⟨e4, f4, g4⟩ := lp b2 d4
      obtain ⟨e5, f5, g5⟩ := lp b3 d5
      rw [if_pos (show 240 ≤ b0 ∧ b0 < 248 ∧ ct b1 = true ∧ ct b2 = true ∧ ct b3 = true from ⟨d1, d2, d3, d4, d5⟩), e3, e4, e5, w (b0 - 240) (by omega) (by omega), w (262144 * (b0 - 240)) (by omega) (by omega), w (4096 * (b1 - 128)) (by omega) (by omega), w (64 * (b2 - 128)) (by omega) (by omega), w (262144 * (b0 - 240) + 4096 * (b1 - 128)) (by omega) (by omega), w (262144 * (b0 - 240) + 4096 * (b1 - 128) + 64 * (b2 - 128)) (by omega) (by omega), w (262144 * (b0 - 240) + 4096 * (b1 - 128) + 64 * (b2 - 128) + (b3 - 128)) (by omega) (by omega)]
    · exact (of_decide_eq_false d5) ((lt b3).2 g.2.2.2.2)
    · exact (of_decide_eq_false d4) ((lt b2).2 g.2.2.2.1)
    · exact (of_decide_eq_false d3) ((lt b1).2 g.2.2.1)
    · exact (of_decide_eq_false d2) g.2.1
    · exact (of_decide_eq_false d1) g.1
  have n2 : ¬ (192 ≤ b0 ∧ b0 < 224 ∧ ct b1 = true) → Br (decide (b0 ≥ (224 : Int))) (Br (decide (b0 < (240 : Int))) (Br (decide ((if ct b1 = true then b1 - 128 else -1) ≥ (0 : Int))) (Br (decide ((if ct b2 = true then b2 - 128 else -1) ≥ (0 : Int)))
    (at2T s i _ (IntKind.i64.wrap (IntKind.i64.wrap (IntKind.i64.wrap ((4096 : Int) * IntKind.i64.wrap (b0 - (224 : Int))) + IntKind.i64.wrap ((64 : Int) * (if ct b1 = true then b1 - 128 else -1))) + (if ct b2 = true then b2 - 128 else -1)))) _) _) _) _ := fun q1 => by
    refine Br.mk (fun d1 => Br.mk (fun d2 => Br.mk (fun d3 => Br.mk (fun d4 => key _ ?_) fun d4 => n3 q1 fun g => ?_) fun d3 => n3 q1 fun g => ?_) fun d2 => n3 q1 fun g => ?_) fun d1 => n3 q1 fun g => ?_
    · have d1 := of_decide_eq_true d1
      have d2 := of_decide_eq_true d2
      have d3 := (lt b1).1 (of_decide_eq_true d3)
      have d4 := (lt b2).1 (of_decide_eq_true d4)
      obtain ⟨e3, f3, g3⟩ := lp b1 d3
      obtain ⟨e4, f4, g4⟩ := lp b2 d4
      rw [if_neg q1, if_pos (show 224 ≤ b0 ∧ b0 < 240 ∧ ct b1 = true ∧ ct b2 = true from ⟨d1, d2, d3, d4⟩), e3, e4, w (b0 - 224) (by omega) (by omega), w (4096 * (b0 - 224)) (by omega) (by omega), w (64 * (b1 - 128)) (by omega) (by omega), w (4096 * (b0 - 224) + 64 * (b1 - 128)) (by omega) (by omega), w (4096 * (b0 - 224) + 64 * (b1 - 128) + (b2 - 128)) (by omega) (by omega)]
    · exact (of_decide_eq_false d4) ((lt b2).2 g.2.2.2)
    · exact (of_decide_eq_false d3) ((lt b1).2 g.2.2.1)
    · exact (of_decide_eq_false d2) g.2.1
    · exact (of_decide_eq_false d1) g.1
  refine Br.mk (fun d1 => Br.mk (fun d2 => Br.mk (fun d3 => key _ ?_) fun d3 => n2 fun g => ?_) fun d2 => n2 fun g => ?_) fun d1 => n2 fun g => ?_
  · have d1 := of_decide_eq_true d1
    have d2 := of_decide_eq_true d2
    have d3 := (lt b1).1 (of_decide_eq_true d3)
    obtain ⟨e3, f3, g3⟩ := lp b1 d3
    rw [if_pos (show 192 ≤ b0 ∧ b0 < 224 ∧ ct b1 = true from ⟨d1, d2, d3⟩), e3, w (b0 - 192) (by omega) (by omega), w (64 * (b0 - 192)) (by omega) (by omega), w (64 * (b0 - 192) + (b1 - 128)) (by omega) (by omega)]
  · exact (of_decide_eq_false d3) ((lt b1).2 g.2.2)
  · exact (of_decide_eq_false d2) g.2.1
  · exact (of_decide_eq_false d1) g.1
theorem gd6_holds : Holds 123 conGd6 := gd6_of (of_of at2_holds)
theorem wr6_holds : Holds 124 conWr6 := conP_holds fun m a => by
  rcases (show ∃ w : ByteArray, w = m from ⟨_, rfl⟩) with ⟨m, rfl⟩
  rcases (show ∃ w : List At, w = a from ⟨_, rfl⟩) with ⟨a, rfl⟩
  refine fun_meetsL (AllH.tok (.cons nm6_holds (by kernel_rfl) (.cons gd6_holds (by kernel_rfl) .nil))) [] [lsWr0, lsWr1, lsWr2] (by kernel_rfl) (by kernel_rfl) (fun i z hz => by
    match i, hz with
    | 0, hz => injection hz with hz; subst hz; exact wr0_sum
    | 1, hz => injection hz with hz; subst hz; exact wr1_sum
    | 2, hz => injection hz with hz; subst hz; exact wr2_sum) fun hpre => Eq.mpr (vcWrF m a _) ?_
  have hb : oBnd a := hpre _ rfl
  have e : ∀ b, wrongE m a = b → [AV.int .i64 b] = compsOf (.int .i64 (wrongE m a)) := fun b h => by rw [h]; rfl
  refine ⟨fun h => qfin rfl (e _ ?_) rfl rfl, fun h => ⟨fun _ => Rq.mk ⟨rfl, rfl, rfl, hb⟩ ⟨fun h1 => ⟨fun _ => Rq.mk ⟨rfl, rfl, rfl, hb⟩ ⟨fun h2 => qfin rfl (e _ ?_) rfl rfl, fun h2 => ⟨fun _ => ⟨fun h3 => qfin rfl (e _ ?_) rfl rfl, fun h3 => qfin rfl (e _ ?_) rfl rfl⟩⟩⟩⟩, fun h1 => qfin rfl (e _ ?_) rfl rfl⟩⟩⟩
  all_goals unfold wrongE; rw [wrong_all]
  · rw [if_pos (by simpa using h)]
  all_goals rw [if_neg (show ¬ nameB m = false by simpa using h)]
  · rw [h1, if_neg (by decide), if_pos h2]
  · rw [h1, if_neg (by decide), if_neg (by rw [h2]; decide), if_pos (of_decide_eq_true h3)]
  · rw [h1, if_neg (by decide), if_neg (by rw [h2]; decide), if_neg (of_decide_eq_false h3)]
  · rw [h1, if_pos (by decide)]
end Go.Proofs.YtnhipiedjekkpaaGreatDoor.AX
end
section
namespace Go.Proofs.YtnhipiedjekkpaaGreatDoor.AXP
open Go Go.Proofs.YtnhipiedjekkpaaGreatDoor.AX
end Go.Proofs.YtnhipiedjekkpaaGreatDoor.AXP
namespace Go.Proofs.YtnhipiedjekkpaaGreatDoor.AX
open Go AXP
end Go.Proofs.YtnhipiedjekkpaaGreatDoor.AX
end
section
namespace Go.Proofs.YtnhipiedjekkpaaGreatDoor.AX
open Go AXP
set_option maxRecDepth 100000
end Go.Proofs.YtnhipiedjekkpaaGreatDoor.AX
end
section
namespace Go.Proofs.YtnhipiedjekkpaaGreatDoor.AXP
open Go Go.Proofs.YtnhipiedjekkpaaGreatDoor.AX
end Go.Proofs.YtnhipiedjekkpaaGreatDoor.AXP
namespace Go.Proofs.YtnhipiedjekkpaaGreatDoor.AX
open Go AXP
set_option maxRecDepth 100000
end Go.Proofs.YtnhipiedjekkpaaGreatDoor.AX
end
section
namespace Go.Proofs.YtnhipiedjekkpaaGreatDoor.AXP
open Go Go.Proofs.YtnhipiedjekkpaaGreatDoor.AX
end Go.Proofs.YtnhipiedjekkpaaGreatDoor.AXP
namespace Go.Proofs.YtnhipiedjekkpaaGreatDoor.AX
open Go AXP
noncomputable def conCn8Lt (k : Nat) : Con := conP [.row .node] fun (l : List Nd) => { pre := some (szNds l < k ∧ cntNds l < 1000000), res := .int .i64 (cntNds l) }
noncomputable def cxCn8 (k : Nat) : Cx := cxT (tabLook [(109, conCn8Lt k)])
noncomputable def lsCn8 (k : Nat) : LS where
  keep := [(3, .as), (6, .as), (7, .as), (8, .as)]
  left := [(3, .as)]
  sum := fun vs bs K => match vs, bs with
    | [.int .i64 n, .row .node l, .int .i64 m, .int .i64 i], [] => Rq (n = 0 ∧ m = l.length ∧ i = 0 ∧ szNds l < k + 1 ∧ cntNds l < 1000000) (K (.exit 0) [.int .i64 (cntNds l)] [])
    | _, _ => False
noncomputable def conDp8Lt (k : Nat) : Con := conP [.row .node] fun (l : List Nd) => { pre := some (szNds l < k ∧ cntNds l < 1000000), res := .int .i64 (dpRs l) }
noncomputable def cxDp8 (k : Nat) : Cx := cxT (tabLook [(110, conDp8Lt k), (107, conLeaf)])
noncomputable def lsDp8 (k : Nat) : LS where
  keep := [(3, .as), (7, .as), (8, .as), (9, .as)]
  left := [(3, .as)]
  sum := fun vs bs K => match vs, bs with
    | [.int .i64 n, .row .node l, .int .i64 m, .int .i64 i], [] => Rq (n = 0 ∧ m = l.length ∧ i = 0 ∧ szNds l < k + 1 ∧ cntNds l < 1000000) (K (.exit 0) [.int .i64 (dpRs l)] [])
    | _, _ => False
noncomputable def conRi8Lt (k : Nat) : Con := conP [.row .node] fun (l : List Nd) => { pre := some (szNds l < k ∧ bndNds l), res := .bool (riRs l false) }
noncomputable def cxRi8 (k : Nat) : Cx := cxT (tabLook [(107, conLeaf), (123, conGd6), (124, conWr6), (111, conRi8Lt k)])
noncomputable def lsRi8 (k : Nat) : LS where
  keep := [(0, .as), (5, .as), (6, .as), (7, .as)]
  left := [(2, .as)]
  sum := fun vs bs K => match vs, bs with
    | [.row .node l, .row .node l', .int .i64 m, .int .i64 i], [] => Rq (l' = l ∧ m = l.length ∧ i = 0 ∧ szNds l < k + 1 ∧ l.length ≤ maxSl ∧ bndNds l) (Br (riRs l false) (K (.exit 0) [.any] []) (K .ret [.bool false] []))
    | _, _ => False
def conCn8 : Con := conP [.row .node] fun (l : List Nd) => { pre := some (cntNds l < 1000000), res := .int .i64 (cntNds l) }
def conDp8 : Con := conP [.row .node] fun (l : List Nd) => { pre := some (cntNds l < 1000000), res := .int .i64 (dpRs l) }
def conRi8 : Con := conP [.row .node] fun (l : List Nd) => { pre := some (bndNds l), res := .bool (riRs l false) }
noncomputable def cxCk8 : Cx := cxT (tabLook [(109, conCn8), (110, conDp8), (111, conRi8)])
def conCk8 : Con := conP [.row .node] fun (l : List Nd) => { pre := some (fineNds l), res := .int .i64 (checkS l) }
end Go.Proofs.YtnhipiedjekkpaaGreatDoor.AX
end
section
namespace Go.Proofs.YtnhipiedjekkpaaGreatDoor.AX
open Go AXP
set_option maxRecDepth 100000
theorem vcLf8F (n : Nd) (Q : List AV → List Blk → List Blk → Prop) : (funA cx0 (LL Tryz.f107 []) Tryz.f107 [.agg (nodeL n)] [] [] Q) = (
Br (n.1 == (2 : Int)) (Q [AV.bool true] [] []) (Q [AV.bool (n.1 == (3 : Int))] [] [])) := by kernel_rfl
theorem vcCn8B (k : Nat) (n : Int) (l : List Nd) (m i : Int) (K : Ex → List AV → List Blk → Prop) : (bodyA (cxCn8 k) (LL Tryz.f109 [lsCn8 k]) Tryz.f109.ntmps (loopAt Tryz.f109 0).1 (loopAt Tryz.f109 0).2 (lsCn8 k).keep (lsCn8 k).left K [.int .i64 n, .row .node l, .int .i64 m, .int .i64 i] []) = (
Br (decide (i < m))
 (Rq ((0 : Int) ≤ i ∧ i < (↑l.length : Int))
 (Rq (szNds (rd Ty.node l i).6 < k ∧ cntNds (rd Ty.node l i).6 < (1000000 : Nat))
 (K Ex.norm
 [AV.int IntKind.i64
 (IntKind.i64.wrap (IntKind.i64.wrap (n + (1 : Int)) + (↑(cntNds (rd Ty.node l i).6) : Int))),
 AV.row Ty.node l, AV.int IntKind.i64 m, AV.int IntKind.i64 (IntKind.i64.wrap (i + (1 : Int)))]
 [])))
 (K (Ex.exit (0 : Nat)) [AV.int IntKind.i64 n] [])) := by kernel_rfl
theorem vcCn8F (k : Nat) (l : List Nd) (Q : List AV → List Blk → List Blk → Prop) : (funA (cxCn8 k) (LL Tryz.f109 [lsCn8 k]) Tryz.f109 [.row .node l] [] [] Q) = (
Gv (l.length ≤ maxSl)
 (Rq
 ((0 : Int) = (0 : Int) ∧
 (↑l.length : Int) = (↑l.length : Int) ∧
 (0 : Int) = (0 : Int) ∧ szNds l < k + (1 : Nat) ∧ cntNds l < (1000000 : Nat))
 (Q [AV.int IntKind.i64 (↑(cntNds l) : Int)] [] []))) := by kernel_rfl
theorem vcDp8B (k : Nat) (n : Int) (l : List Nd) (m i : Int) (K : Ex → List AV → List Blk → Prop) : (bodyA (cxDp8 k) (LL Tryz.f110 [lsDp8 k]) Tryz.f110.ntmps (loopAt Tryz.f110 0).1 (loopAt Tryz.f110 0).2 (lsDp8 k).keep (lsDp8 k).left K [.int .i64 n, .row .node l, .int .i64 m, .int .i64 i] []) = (
Br (decide (i < m))
 (Rq ((0 : Int) ≤ i ∧ i < (↑l.length : Int))
 (Rq (szNds (rd Ty.node l i).6 < k ∧ cntNds (rd Ty.node l i).6 < (1000000 : Nat))
 (Br (decide (dpRs (rd Ty.node l i).6 > (0 : Int)))
 (Br (decide (IntKind.i64.wrap (dpRs (rd Ty.node l i).6 + (1 : Int)) > n))
 (K Ex.norm
 [AV.int IntKind.i64 (IntKind.i64.wrap (dpRs (rd Ty.node l i).6 + (1 : Int))), AV.row Ty.node l,
 AV.int IntKind.i64 m, AV.int IntKind.i64 (IntKind.i64.wrap (i + (1 : Int)))]
 [])
 (K Ex.norm
 [AV.int IntKind.i64 n, AV.row Ty.node l, AV.int IntKind.i64 m,
 AV.int IntKind.i64 (IntKind.i64.wrap (i + (1 : Int)))]
 []))
 (Br
 (!leafB
 (Nd.mk (rd Ty.node l i).1 (rd Ty.node l i).2 (rd Ty.node l i).3 (rd Ty.node l i).4 (rd Ty.node l i).5
 (rd Ty.node l i).6))
 (Br (decide (IntKind.i64.wrap (dpRs (rd Ty.node l i).6 + (1 : Int)) > n))
 (K Ex.norm
 [AV.int IntKind.i64 (IntKind.i64.wrap (dpRs (rd Ty.node l i).6 + (1 : Int))), AV.row Ty.node l,
 AV.int IntKind.i64 m, AV.int IntKind.i64 (IntKind.i64.wrap (i + (1 : Int)))]
 [])
 (K Ex.norm
 [AV.int IntKind.i64 n, AV.row Ty.node l, AV.int IntKind.i64 m,
 AV.int IntKind.i64 (IntKind.i64.wrap (i + (1 : Int)))]
 []))
 (Br (decide (dpRs (rd Ty.node l i).6 > n))
 (K Ex.norm
 [AV.int IntKind.i64 (dpRs (rd Ty.node l i).6), AV.row Ty.node l, AV.int IntKind.i64 m,
 AV.int IntKind.i64 (IntKind.i64.wrap (i + (1 : Int)))]
 [])
 (K Ex.norm
 [AV.int IntKind.i64 n, AV.row Ty.node l, AV.int IntKind.i64 m,
 AV.int IntKind.i64 (IntKind.i64.wrap (i + (1 : Int)))]
 []))))))
 (K (Ex.exit (0 : Nat)) [AV.int IntKind.i64 n] [])) := by kernel_rfl
theorem vcDp8F (k : Nat) (l : List Nd) (Q : List AV → List Blk → List Blk → Prop) : (funA (cxDp8 k) (LL Tryz.f110 [lsDp8 k]) Tryz.f110 [.row .node l] [] [] Q) = (
Gv (l.length ≤ maxSl)
 (Rq
 ((0 : Int) = (0 : Int) ∧
 (↑l.length : Int) = (↑l.length : Int) ∧
 (0 : Int) = (0 : Int) ∧ szNds l < k + (1 : Nat) ∧ cntNds l < (1000000 : Nat))
 (Q [AV.int IntKind.i64 (dpRs l)] [] []))) := by kernel_rfl
theorem vcRi8B (k : Nat) (l : List Nd) (m i : Int) (K : Ex → List AV → List Blk → Prop) : (bodyA (cxRi8 k) (LL Tryz.f111 [lsRi8 k]) Tryz.f111.ntmps (loopAt Tryz.f111 0).1 (loopAt Tryz.f111 0).2 (lsRi8 k).keep (lsRi8 k).left K [.row .node l, .row .node l, .int .i64 m, .int .i64 i] []) = (
Br (decide (i < m))
 (Rq ((0 : Int) ≤ i ∧ i < (↑l.length : Int))
 (Br ((rd Ty.node l i).1 == (2 : Int))
 (Br (decide (i > (0 : Int)))
 (Rq ((0 : Int) ≤ IntKind.i64.wrap (i - (1 : Int)) ∧ IntKind.i64.wrap (i - (1 : Int)) < (↑l.length : Int))
 (Br ((rd Ty.node l (IntKind.i64.wrap (i - (1 : Int)))).1 == (2 : Int)) (K Ex.ret [AV.bool false] [])
 (Br
 (leafB
 (Nd.mk (rd Ty.node l i).1 (rd Ty.node l i).2 (rd Ty.node l i).3 (rd Ty.node l i).4 (rd Ty.node l i).5
 (rd Ty.node l i).6))
 (Br ((rd Ty.node l i).2 != (0 : Int)) (K Ex.ret [AV.bool false] [])
 (Br (!eqS (rd Ty.node l i).3 (ByteArray.mk (Array.mk []))) (K Ex.ret [AV.bool false] [])
 (Br (decide ((↑(rd Ty.node l i).4.length : Int) > (0 : Int)))
 (Gv ((rd Ty.node l i).4.length ≤ maxSl) (K Ex.ret [AV.bool false] []))
 (Br (decide ((↑(rd Ty.node l i).6.length : Int) > (0 : Int)))
 (Gv ((rd Ty.node l i).4.length ≤ maxSl)
 (Gv ((rd Ty.node l i).6.length ≤ maxSl) (K Ex.ret [AV.bool false] [])))
 (Rq ((rd Ty.node l i).5.size ≤ (1000000 : Nat))
 (Br (!goodB (rd Ty.node l i).5)
 (Gv ((rd Ty.node l i).4.length ≤ maxSl)
 (Gv ((rd Ty.node l i).6.length ≤ maxSl) (K Ex.ret [AV.bool false] [])))
 (Br ((rd Ty.node l i).1 == (2 : Int))
 (Gv ((rd Ty.node l i).4.length ≤ maxSl)
 (Gv ((rd Ty.node l i).6.length ≤ maxSl)
 (Br (eqS (rd Ty.node l i).5 (ByteArray.mk (Array.mk []))) (K Ex.ret [AV.bool false] [])
 (K Ex.norm
 [AV.row Ty.node l, AV.row Ty.node l, AV.int IntKind.i64 m,
 AV.int IntKind.i64 (IntKind.i64.wrap (i + (1 : Int)))]
 []))))
 (Gv ((rd Ty.node l i).4.length ≤ maxSl)
 (Gv ((rd Ty.node l i).6.length ≤ maxSl)
 (K Ex.norm
 [AV.row Ty.node l, AV.row Ty.node l, AV.int IntKind.i64 m,
 AV.int IntKind.i64 (IntKind.i64.wrap (i + (1 : Int)))]
 []))))))))))
 (Br ((rd Ty.node l i).1 != (1 : Int)) (K Ex.ret [AV.bool false] [])
 (Br (decide ((rd Ty.node l i).2 < (0 : Int))) (K Ex.ret [AV.bool false] [])
 (Br (decide ((rd Ty.node l i).2 > (2 : Int))) (K Ex.ret [AV.bool false] [])
 (Br (!eqS (rd Ty.node l i).5 (ByteArray.mk (Array.mk []))) (K Ex.ret [AV.bool false] [])
 (Rq (oBnd (rd Ty.node l i).4)
 (Br (wrongE (rd Ty.node l i).3 (rd Ty.node l i).4 != (0 : Int)) (K Ex.ret [AV.bool false] [])
 (Rq (szNds (rd Ty.node l i).6 < k ∧ bndNds (rd Ty.node l i).6)
 (Br (!riRs (rd Ty.node l i).6 false) (K Ex.ret [AV.bool false] [])
 (K Ex.norm
 [AV.row Ty.node l, AV.row Ty.node l, AV.int IntKind.i64 m,
 AV.int IntKind.i64 (IntKind.i64.wrap (i + (1 : Int)))]
 []))))))))))))
 (Br
 (leafB
 (Nd.mk (rd Ty.node l i).1 (rd Ty.node l i).2 (rd Ty.node l i).3 (rd Ty.node l i).4 (rd Ty.node l i).5
 (rd Ty.node l i).6))
 (Br ((rd Ty.node l i).2 != (0 : Int)) (K Ex.ret [AV.bool false] [])
 (Br (!eqS (rd Ty.node l i).3 (ByteArray.mk (Array.mk []))) (K Ex.ret [AV.bool false] [])
 (Br (decide ((↑(rd Ty.node l i).4.length : Int) > (0 : Int)))
 (Gv ((rd Ty.node l i).4.length ≤ maxSl) (K Ex.ret [AV.bool false] []))
 (Br (decide ((↑(rd Ty.node l i).6.length : Int) > (0 : Int)))
 (Gv ((rd Ty.node l i).4.length ≤ maxSl)
 (Gv ((rd Ty.node l i).6.length ≤ maxSl) (K Ex.ret [AV.bool false] [])))
 (Rq ((rd Ty.node l i).5.size ≤ (1000000 : Nat))
 (Br (!goodB (rd Ty.node l i).5)
 (Gv ((rd Ty.node l i).4.length ≤ maxSl)
 (Gv ((rd Ty.node l i).6.length ≤ maxSl) (K Ex.ret [AV.bool false] [])))
 (Br ((rd Ty.node l i).1 == (2 : Int))
 (Gv ((rd Ty.node l i).4.length ≤ maxSl)
 (Gv ((rd Ty.node l i).6.length ≤ maxSl)
 (Br (eqS (rd Ty.node l i).5 (ByteArray.mk (Array.mk []))) (K Ex.ret [AV.bool false] [])
 (K Ex.norm
 [AV.row Ty.node l, AV.row Ty.node l, AV.int IntKind.i64 m,
 AV.int IntKind.i64 (IntKind.i64.wrap (i + (1 : Int)))]
 []))))
 (Gv ((rd Ty.node l i).4.length ≤ maxSl)
 (Gv ((rd Ty.node l i).6.length ≤ maxSl)
 (K Ex.norm
 [AV.row Ty.node l, AV.row Ty.node l, AV.int IntKind.i64 m,
 AV.int IntKind.i64 (IntKind.i64.wrap (i + (1 : Int)))]
 []))))))))))
 (Br ((rd Ty.node l i).1 != (1 : Int)) (K Ex.ret [AV.bool false] [])
 (Br (decide ((rd Ty.node l i).2 < (0 : Int))) (K Ex.ret [AV.bool false] [])
 (Br (decide ((rd Ty.node l i).2 > (2 : Int))) (K Ex.ret [AV.bool false] [])
 (Br (!eqS (rd Ty.node l i).5 (ByteArray.mk (Array.mk []))) (K Ex.ret [AV.bool false] [])
 (Rq (oBnd (rd Ty.node l i).4)
 (Br (wrongE (rd Ty.node l i).3 (rd Ty.node l i).4 != (0 : Int)) (K Ex.ret [AV.bool false] [])
 (Rq (szNds (rd Ty.node l i).6 < k ∧ bndNds (rd Ty.node l i).6)
 (Br (!riRs (rd Ty.node l i).6 false) (K Ex.ret [AV.bool false] [])
 (K Ex.norm
 [AV.row Ty.node l, AV.row Ty.node l, AV.int IntKind.i64 m,
 AV.int IntKind.i64 (IntKind.i64.wrap (i + (1 : Int)))]
 [])))))))))))
 (Br
 (leafB
 (Nd.mk (rd Ty.node l i).1 (rd Ty.node l i).2 (rd Ty.node l i).3 (rd Ty.node l i).4 (rd Ty.node l i).5
 (rd Ty.node l i).6))
 (Br ((rd Ty.node l i).2 != (0 : Int)) (K Ex.ret [AV.bool false] [])
 (Br (!eqS (rd Ty.node l i).3 (ByteArray.mk (Array.mk []))) (K Ex.ret [AV.bool false] [])
 (Br (decide ((↑(rd Ty.node l i).4.length : Int) > (0 : Int)))
 (Gv ((rd Ty.node l i).4.length ≤ maxSl) (K Ex.ret [AV.bool false] []))
 (Br (decide ((↑(rd Ty.node l i).6.length : Int) > (0 : Int)))
 (Gv ((rd Ty.node l i).4.length ≤ maxSl)
 (Gv ((rd Ty.node l i).6.length ≤ maxSl) (K Ex.ret [AV.bool false] [])))
 (Rq ((rd Ty.node l i).5.size ≤ (1000000 : Nat))
 (Br (!goodB (rd Ty.node l i).5)
 (Gv ((rd Ty.node l i).4.length ≤ maxSl)
 (Gv ((rd Ty.node l i).6.length ≤ maxSl) (K Ex.ret [AV.bool false] [])))
 (Br ((rd Ty.node l i).1 == (2 : Int))
 (Gv ((rd Ty.node l i).4.length ≤ maxSl)
 (Gv ((rd Ty.node l i).6.length ≤ maxSl)
 (Br (eqS (rd Ty.node l i).5 (ByteArray.mk (Array.mk []))) (K Ex.ret [AV.bool false] [])
 (K Ex.norm
 [AV.row Ty.node l, AV.row Ty.node l, AV.int IntKind.i64 m,
 AV.int IntKind.i64 (IntKind.i64.wrap (i + (1 : Int)))]
 []))))
 (Gv ((rd Ty.node l i).4.length ≤ maxSl)
 (Gv ((rd Ty.node l i).6.length ≤ maxSl)
 (K Ex.norm
 [AV.row Ty.node l, AV.row Ty.node l, AV.int IntKind.i64 m,
 AV.int IntKind.i64 (IntKind.i64.wrap (i + (1 : Int)))]
 []))))))))))
 (Br ((rd Ty.node l i).1 != (1 : Int)) (K Ex.ret [AV.bool false] [])
 (Br (decide ((rd Ty.node l i).2 < (0 : Int))) (K Ex.ret [AV.bool false] [])
 (Br (decide ((rd Ty.node l i).2 > (2 : Int))) (K Ex.ret [AV.bool false] [])
 (Br (!eqS (rd Ty.node l i).5 (ByteArray.mk (Array.mk []))) (K Ex.ret [AV.bool false] [])
 (Rq (oBnd (rd Ty.node l i).4)
 (Br (wrongE (rd Ty.node l i).3 (rd Ty.node l i).4 != (0 : Int)) (K Ex.ret [AV.bool false] [])
 (Rq (szNds (rd Ty.node l i).6 < k ∧ bndNds (rd Ty.node l i).6)
 (Br (!riRs (rd Ty.node l i).6 false) (K Ex.ret [AV.bool false] [])
 (K Ex.norm
 [AV.row Ty.node l, AV.row Ty.node l, AV.int IntKind.i64 m,
 AV.int IntKind.i64 (IntKind.i64.wrap (i + (1 : Int)))]
 []))))))))))))
 (K (Ex.exit (0 : Nat)) [AV.any] [])) := by kernel_rfl
theorem vcRi8F (k : Nat) (l : List Nd) (Q : List AV → List Blk → List Blk → Prop) : (funA (cxRi8 k) (LL Tryz.f111 [lsRi8 k]) Tryz.f111 [.row .node l] [] [] Q) = (
Gv (l.length ≤ maxSl)
 (Rq
 (l = l ∧
 (↑l.length : Int) = (↑l.length : Int) ∧
 (0 : Int) = (0 : Int) ∧ szNds l < k + (1 : Nat) ∧ l.length ≤ maxSl ∧ bndNds l)
 (Br (riRs l false) (Q [AV.bool true] [] []) (Q [AV.bool false] [] [])))) := by kernel_rfl
theorem vcCk8F (l : List Nd) (Q : List AV → List Blk → List Blk → Prop) : (funA cxCk8 (LL Tryz.f91 []) Tryz.f91 [.row .node l] [] [] Q) = (
Rq (cntNds l < (1000000 : Nat))
 (Br (decide ((↑(cntNds l) : Int) > (300 : Int))) (Q [AV.int IntKind.i64 (2 : Int)] [] [])
 (Rq (cntNds l < (1000000 : Nat))
 (Br (decide (dpRs l > (40 : Int))) (Q [AV.int IntKind.i64 (2 : Int)] [] [])
 (Rq (bndNds l)
 (Br (!riRs l false) (Q [AV.int IntKind.i64 (4 : Int)] [] []) (Q [AV.int IntKind.i64 (0 : Int)] [] []))))))) := by kernel_rfl
end Go.Proofs.YtnhipiedjekkpaaGreatDoor.AX
end
section
namespace Go.Proofs.YtnhipiedjekkpaaGreatDoor.AXP
open Go Go.Proofs.YtnhipiedjekkpaaGreatDoor.AX
mutual
theorem dp_cnt : ∀ n : Nd, dpR n ≤ cntNd n
  | ⟨k, s, m, a, t, c⟩ => by
    have := dps_cnt c
    rw [dpR, cntNd]
    split <;> omega
theorem dps_cnt : ∀ l : List Nd, dpRs l ≤ cntNds l
  | [] => by rw [dpRs, cntNds]; exact Int.le_refl _
  | n :: l => by
    have := dp_cnt n
    have := dps_cnt l
    rw [dpRs, cntNds]
    split <;> omega
end
theorem bnd_mem : ∀ {l : List Nd} {n : Nd}, bndNds l → n ∈ l → bndNd n
  | m :: l, n, h, hm => by
    rw [bndNds] at h
    cases hm with
    | head => exact h.1
    | tail _ hm => exact bnd_mem h.2 hm
theorem bndNd_eq (n : Nd) : bndNd n = (ndFit n.name n.text n.attrs ∧ bndNds n.kids) := by cases n; rw [bndNd]
def prevT (l : List Nd) (i : Nat) : Bool := decide ((i : Int) > 0) && ((rd Ty.node l ((i : Int) - 1)).1 == 2)
theorem riR_def (n : Nd) (p : Bool) : riR n p = if ((n.1 == 2) && p) = true then false else if leafB n = true then n.2 == 0 && eqS n.3 ⟨#[]⟩ && !decide ((n.4.length : Int) > 0) && !decide ((n.6.length : Int) > 0) && goodB n.5 && !((n.1 == 2) && eqS n.5 ⟨#[]⟩)
      else n.1 == 1 && !decide (n.2 < 0) && !decide (n.2 > 2) && eqS n.5 ⟨#[]⟩ && wrongE n.3 n.4 == 0 && riRs n.6 false := by
  have hL : ∀ {α : Type} (l : List α), (l.length == 0) = !decide ((l.length : Int) > 0) := fun l => by
    cases l with
    | nil => rfl
    | cons x l =>
      rw [decide_eq_true (show ((x :: l).length : Int) > 0 by rw [List.length_cons]; omega)]; rfl
  have h1 : ∀ s : Int, decide (0 ≤ s) = !decide (s < 0) := fun s => by rw [← decide_not]; congr 1; apply propext; omega
  have h2 : ∀ s : Int, decide (s ≤ 2) = !decide (s > 2) := fun s => by rw [← decide_not]; congr 1; apply propext; omega
  obtain ⟨k, s, m, a, t, c⟩ := n
  rw [riR, hL, hL, h1, h2]; rfl
end Go.Proofs.YtnhipiedjekkpaaGreatDoor.AXP
namespace Go.Proofs.YtnhipiedjekkpaaGreatDoor.AX
open Go AXP
set_option maxRecDepth 100000
theorem sz_memT {l : List Nd} {n : Nd} (h : n ∈ l) : szNds n.kids < szNds l := by
  obtain ⟨i, hi, rfl⟩ := List.getElem_of_mem h
  exact szNds_kids hi
theorem lf8_holds : Holds 107 conLeaf := conP_holds fun n => by
  refine fun_meets0 tok0 [] (by kernel_rfl) (by kernel_rfl) fun _ => Eq.mpr (vcLf8F n _) ?_
  have e : ∀ b, leafB n = b → [AV.bool b] = compsOf (.bool (leafB n)) := fun b h => by rw [h]; rfl
  refine ⟨fun h => qfin rfl (e _ ?_) rfl rfl, fun h => qfin rfl (e _ ?_) rfl rfl⟩
  · show (n.1 == 2 || n.1 == 3) = true
    rw [h]; rfl
  · show (n.1 == 2 || n.1 == 3) = (n.1 == 3)
    rw [h]; rfl
theorem cn8_sum (k : Nat) : SumOK (cxCn8 k) (LL Tryz.f109 [lsCn8 k]) Tryz.f109.ntmps (loopAt Tryz.f109 0).1 (loopAt Tryz.f109 0).2 (lsCn8 k) := by
  intro vs bs K hs
  unfold lsCn8 at hs
  simp only at hs
  split at hs
  case h_2 => exact hs.elim
  rename_i n l m i
  rcases (show ∃ w : List Nd, w = l from ⟨_, rfl⟩) with ⟨l, rfl⟩
  obtain ⟨⟨rfl, rfl, rfl, hk, hc⟩, h⟩ := hs
  have hlen := cnt_len l
  have hm : l.length ≤ maxSl := by unfold maxSl; omega
  refine sum_rec (σ := Nat × Nat) (fun s => [.int .i64 (s.2 : Nat), .row .node l, .int .i64 l.length, .int .i64 (s.1 : Nat)]) (fun _ => []) (fun s => s.1 ≤ l.length ∧ s.2 + cntNds (l.drop s.1) = cntNds l) (fun s => l.length - s.1) ?_ (0, 0) ⟨Nat.zero_le _, by simp⟩
  rintro ⟨i, n⟩ ⟨hi, he⟩ R hR
  dsimp only at hi he hR ⊢
  refine Eq.mpr (vcCn8B k n l l.length i _) ⟨fun h1 => ?_, fun h1 => ?_⟩
  · have hlt : i < l.length := by have := of_decide_eq_true h1; omega
    rw [rd_nd hlt, wrap_succ hlt hm]
    rw [List.drop_eq_getElem_cons hlt, cntNds, cntNd_eq] at he
    have ew : IntKind.i64.wrap (IntKind.i64.wrap ((n : Int) + 1) + (cntNds l[i].kids : Int)) = ((n + 1 + cntNds l[i].kids : Nat) : Int) := by
      rw [wrap_id' (i := (n : Int) + 1) (by omega) (by omega), wrap_id' (by omega) (by omega)]; omega
    have hz := sz_memT (List.getElem_mem hlt)
    refine Rq.mk ⟨by omega, by omega⟩ (Rq.mk ⟨by show szNds l[i].kids < k; omega, by show cntNds l[i].kids < 1000000; omega⟩ ?_)
    have := hR (i + 1, n + 1 + cntNds l[i].kids) ⟨hlt, by dsimp only; omega⟩ (by dsimp only; omega)
    dsimp only at this
    rw [← ew] at this
    exact this
  · have hge : l.length ≤ i := by have := of_decide_eq_false h1; omega
    rw [List.drop_of_length_le hge, cntNds, Nat.add_zero] at he
    rw [he]
    exact h
theorem cn8_lt : ∀ k, Holds 109 (conCn8Lt k)
  | 0 => conP_holds fun l => by
    intro F I w vals _ _ hpre
    exact absurd (hpre _ rfl).1 (Nat.not_lt_zero _)
  | k + 1 => conP_holds fun l => by
    rcases (show ∃ w : List Nd, w = l from ⟨_, rfl⟩) with ⟨l, rfl⟩
    refine fun_meets1 (AllH.tok (.cons (cn8_lt k) (by kernel_rfl) .nil)) [] (lsCn8 k) (by kernel_rfl) (by kernel_rfl) (cn8_sum k) fun hpre => Eq.mpr (vcCn8F k l _) ?_
    obtain ⟨h1, h2⟩ : szNds l < k + 1 ∧ cntNds l < 1000000 := hpre _ rfl
    exact ⟨fun _ => Rq.mk ⟨rfl, rfl, rfl, h1, h2⟩ (qfin rfl rfl rfl rfl)⟩
theorem cn8_holds : Holds 109 conCn8 := conP_holds fun l => by
  rcases (show ∃ w : List Nd, w = l from ⟨_, rfl⟩) with ⟨l, rfl⟩
  intro F I w vals hH hv hpre
  exact cn8_lt (szNds l + 1) [.row .node l] [] { pre := some (szNds l < szNds l + 1 ∧ cntNds l < 1000000), res := .int .i64 (cntNds l) } rfl F I w vals hH hv (fun p hp => by injection hp with hp; subst hp; exact ⟨Nat.lt_succ_self _, hpre _ rfl⟩)
theorem dp8_sum (k : Nat) : SumOK (cxDp8 k) (LL Tryz.f110 [lsDp8 k]) Tryz.f110.ntmps (loopAt Tryz.f110 0).1 (loopAt Tryz.f110 0).2 (lsDp8 k) := by
  intro vs bs K hs
  unfold lsDp8 at hs
  simp only at hs
  split at hs
  case h_2 => exact hs.elim
  rename_i n l m i
  rcases (show ∃ w : List Nd, w = l from ⟨_, rfl⟩) with ⟨l, rfl⟩
  obtain ⟨⟨rfl, rfl, rfl, hk, hc⟩, h⟩ := hs
  have hlen := cnt_len l
  have hm : l.length ≤ maxSl := by unfold maxSl; omega
  have hnn := dpRs_nn l
  refine sum_rec (σ := Nat × Int) (fun s => [.int .i64 s.2, .row .node l, .int .i64 l.length, .int .i64 (s.1 : Nat)]) (fun _ => []) (fun s => s.1 ≤ l.length ∧ (if dpRs (l.drop s.1) > s.2 then dpRs (l.drop s.1) else s.2) = dpRs l ∧ 0 ≤ s.2) (fun s => l.length - s.1) ?_ (0, 0) ⟨Nat.zero_le _, by dsimp only; rw [List.drop_zero]; split <;> omega, Int.le_refl _⟩
  rintro ⟨i, n⟩ ⟨hi, he, hn0⟩ R hR
  dsimp only at hi he hn0 hR ⊢
  refine Eq.mpr (vcDp8B k n l l.length i _) ⟨fun h1 => ?_, fun h1 => ?_⟩
  · have hlt : i < l.length := by have := of_decide_eq_true h1; omega
    rw [rd_nd hlt, wrap_succ hlt hm]
    simp only [nd_eta]
    rw [List.drop_eq_getElem_cons hlt, dpRs, dpR_eq] at he
    have hz := sz_memT (List.getElem_mem hlt)
    have h2 := cnt_mem hlt
    rw [cntNd_eq] at h2
    have h3 := dps_cnt l[i].kids
    have h4 := dpRs_nn l[i].kids
    have ew : IntKind.i64.wrap (dpRs l[i].6 + 1) = dpRs l[i].kids + 1 := by show IntKind.i64.wrap (dpRs l[i].kids + 1) = _; rw [wrap_id'] <;> omega
    rw [ew]
    have hgo := fun v => hR (i + 1, v)
    dsimp only at hgo
    refine Rq.mk ⟨by omega, by omega⟩ (Rq.mk ⟨by show szNds l[i].kids < k; omega, by show cntNds l[i].kids < 1000000; omega⟩ ?_)
    have h4 : 0 ≤ dpRs l[i].kids := h4
    refine ⟨fun g1 => ⟨fun g2 => hgo _ ⟨hlt, ?_, by omega⟩ (by omega), fun g2 => hgo _ ⟨hlt, ?_, by omega⟩ (by omega)⟩, fun g1 => ⟨fun g2 => ⟨fun g3 => hgo _ ⟨hlt, ?_, by omega⟩ (by omega), fun g3 => hgo _ ⟨hlt, ?_, by omega⟩ (by omega)⟩, fun g2 => ⟨fun g3 => hgo _ ⟨hlt, ?_, by omega⟩ (by omega), fun g3 => hgo _ ⟨hlt, ?_, by omega⟩ (by omega)⟩⟩⟩
    · have g2 : dpRs l[i].kids + 1 > n := of_decide_eq_true g2
      have e : (if (decide (dpRs l[i].kids > 0) || !leafB l[i]) = true then dpRs l[i].kids + 1 else dpRs l[i].kids) = dpRs l[i].kids + 1 := if_pos (by rw [g1]; rfl)
      rw [e] at he
      repeat' split at he
      all_goals split <;> omega
    · have g2 : ¬ dpRs l[i].kids + 1 > n := of_decide_eq_false g2
      have e : (if (decide (dpRs l[i].kids > 0) || !leafB l[i]) = true then dpRs l[i].kids + 1 else dpRs l[i].kids) = dpRs l[i].kids + 1 := if_pos (by rw [g1]; rfl)
      rw [e] at he
      repeat' split at he
      all_goals split <;> omega
    · have g3 : dpRs l[i].kids + 1 > n := of_decide_eq_true g3
      have e : (if (decide (dpRs l[i].kids > 0) || !leafB l[i]) = true then dpRs l[i].kids + 1 else dpRs l[i].kids) = dpRs l[i].kids + 1 := if_pos (by rw [g2, Bool.or_true])
      rw [e] at he
      repeat' split at he
      all_goals split <;> omega
    · have g3 : ¬ dpRs l[i].kids + 1 > n := of_decide_eq_false g3
      have e : (if (decide (dpRs l[i].kids > 0) || !leafB l[i]) = true then dpRs l[i].kids + 1 else dpRs l[i].kids) = dpRs l[i].kids + 1 := if_pos (by rw [g2, Bool.or_true])
      rw [e] at he
      repeat' split at he
      all_goals split <;> omega
    · have g3 : dpRs l[i].kids > n := of_decide_eq_true g3
      have e : (if (decide (dpRs l[i].kids > 0) || !leafB l[i]) = true then dpRs l[i].kids + 1 else dpRs l[i].kids) = dpRs l[i].kids := if_neg (by rw [g1, g2]; decide)
      rw [e] at he
      repeat' split at he
      all_goals split <;> omega
    · have g3 : ¬ dpRs l[i].kids > n := of_decide_eq_false g3
      have e : (if (decide (dpRs l[i].kids > 0) || !leafB l[i]) = true then dpRs l[i].kids + 1 else dpRs l[i].kids) = dpRs l[i].kids := if_neg (by rw [g1, g2]; decide)
      rw [e] at he
      repeat' split at he
      all_goals split <;> omega
  · have hge : l.length ≤ i := by have := of_decide_eq_false h1; omega
    rw [List.drop_of_length_le hge, dpRs] at he
    have hn : n = dpRs l := by split at he <;> omega
    rw [hn]
    exact h
theorem dp8_lt : ∀ k, Holds 110 (conDp8Lt k)
  | 0 => conP_holds fun l => by
    intro F I w vals _ _ hpre
    exact absurd (hpre _ rfl).1 (Nat.not_lt_zero _)
  | k + 1 => conP_holds fun l => by
    rcases (show ∃ w : List Nd, w = l from ⟨_, rfl⟩) with ⟨l, rfl⟩
    refine fun_meets1 (AllH.tok (.cons (dp8_lt k) (by kernel_rfl) (.cons lf8_holds (by kernel_rfl) .nil))) [] (lsDp8 k) (by kernel_rfl) (by kernel_rfl) (dp8_sum k) fun hpre => Eq.mpr (vcDp8F k l _) ?_
    obtain ⟨h1, h2⟩ : szNds l < k + 1 ∧ cntNds l < 1000000 := hpre _ rfl
    exact ⟨fun _ => Rq.mk ⟨rfl, rfl, rfl, h1, h2⟩ (qfin rfl rfl rfl rfl)⟩
theorem dp8_holds : Holds 110 conDp8 := conP_holds fun l => by
  rcases (show ∃ w : List Nd, w = l from ⟨_, rfl⟩) with ⟨l, rfl⟩
  intro F I w vals hH hv hpre
  exact dp8_lt (szNds l + 1) [.row .node l] [] { pre := some (szNds l < szNds l + 1 ∧ cntNds l < 1000000), res := .int .i64 (dpRs l) } rfl F I w vals hH hv (fun p hp => by injection hp with hp; subst hp; exact ⟨Nat.lt_succ_self _, hpre _ rfl⟩)
theorem ri8_sum (k : Nat) : SumOK (cxRi8 k) (LL Tryz.f111 [lsRi8 k]) Tryz.f111.ntmps (loopAt Tryz.f111 0).1 (loopAt Tryz.f111 0).2 (lsRi8 k) := by
  intro vs bs K hs
  unfold lsRi8 at hs
  simp only at hs
  split at hs
  case h_2 => exact hs.elim
  rename_i l l' m i
  rcases (show ∃ w : List Nd, w = l from ⟨_, rfl⟩) with ⟨l, rfl⟩
  obtain ⟨⟨el, rfl, rfl, hk, hm, hb⟩, h⟩ := hs
  have el : l = l' := el.symm
  subst el
  refine sum_rec (σ := Nat) (fun i => [.row .node l, .row .node l, .int .i64 l.length, .int .i64 (i : Nat)]) (fun _ => []) (fun i => i ≤ l.length ∧ riRs (l.drop i) (prevT l i) = riRs l false) (fun i => l.length - i) ?_ 0 ⟨Nat.zero_le _, rfl⟩
  rintro i ⟨hi, he⟩ R hR
  refine Eq.mpr (vcRi8B k l l.length i _) ⟨fun h1 => ?_, fun h1 => ?_⟩
  · have hlt : i < l.length := by have := of_decide_eq_true h1; omega
    have ew : IntKind.i64.wrap ((i : Int) - 1) = (i : Int) - 1 := by unfold maxSl at hm; rw [wrap_id'] <;> omega
    have hz := sz_memT (List.getElem_mem hlt)
    have hbn := bnd_mem hb (List.getElem_mem hlt)
    rw [bndNd_eq] at hbn
    have hx1 : l[i].5.size ≤ 1000000 := Nat.le_trans hbn.1.2.1 (by decide)
    have hx2 : oBnd l[i].4 := ⟨Nat.le_trans hbn.1.2.2.1 (by decide), fun x hx => Nat.le_trans (hbn.1.2.2.2 x hx).2 (by decide)⟩
    have hx3 : szNds l[i].6 < k ∧ bndNds l[i].6 := ⟨by show szNds l[i].kids < k; omega, hbn.2⟩
    have hidx : decide ((i : Int) > 0) = true → 0 ≤ (i : Int) - 1 ∧ (i : Int) - 1 < (l.length : Int) := fun q => by have := of_decide_eq_true q; omega
    have hcur : (0 : Int) ≤ (i : Int) ∧ (i : Int) < (l.length : Int) := ⟨by omega, by omega⟩
    rw [List.drop_eq_getElem_cons hlt, riRs] at he
    have hp : prevT l (i + 1) = (l[i].kind == 2) := by
      unfold prevT
      rw [decide_eq_true (show ((i + 1 : Nat) : Int) > 0 by omega), Bool.true_and, show ((i + 1 : Nat) : Int) - 1 = (i : Int) by omega, rd_nd hlt]
    rw [ew, rd_nd hlt, wrap_succ hlt hm]
    simp only [nd_eta]
    have ret : riR l[i] (prevT l i) = false → K .ret [.bool false] [] := fun q => by
      rw [q, Bool.false_and] at he
      exact h.no he.symm
    have nxt : riR l[i] (prevT l i) = true → R [.row .node l, .row .node l, .int .i64 l.length, .int .i64 ((i + 1 : Nat) : Int)] [] := fun q => by
      rw [q, Bool.true_and] at he
      exact hR (i + 1) ⟨hlt, by rw [hp]; exact he⟩ (by omega)
    rw [riR_def] at ret nxt
    unfold prevT at ret nxt
    clear he hp hR h hb hbn hz ew
    generalize l[i] = n at ret nxt hx1 hx2 hx3 ⊢
    unfold bne
    generalize (n.1 == 2) = a at ret nxt ⊢
    generalize ((rd Ty.node l ((i : Int) - 1)).1 == 2) = c at ret nxt ⊢
    generalize decide ((i : Int) > 0) = p at ret nxt hidx ⊢
    generalize leafB n = f at ret nxt ⊢
    generalize (n.2 == 0) = s0 at ret nxt ⊢
    generalize eqS n.3 ⟨#[]⟩ = e3 at ret nxt ⊢
    generalize decide ((n.4.length : Int) > 0) = l4 at ret nxt ⊢
    generalize decide ((n.6.length : Int) > 0) = l6 at ret nxt ⊢
    generalize goodB n.5 = g5 at ret nxt ⊢
    generalize eqS n.5 ⟨#[]⟩ = e5 at ret nxt ⊢
    generalize (n.1 == 1) = k1 at ret nxt ⊢
    generalize decide (n.2 < 0) = t0 at ret nxt ⊢
    generalize decide (n.2 > 2) = t2 at ret nxt ⊢
    generalize (wrongE n.3 n.4 == 0) = w at ret nxt ⊢
    generalize riRs n.6 false = rr at ret nxt ⊢
    repeat' (first | refine Rq.mk hcur ?_ | refine Rq.mk (hidx (by assumption)) ?_ | refine Rq.mk hx1 ?_ | refine Rq.mk hx2 ?_ | refine Rq.mk hx3 ?_ | refine Gv.mk (fun _ => ?_) | refine Br.mk (fun _ => ?_) (fun _ => ?_) | fail)
    all_goals first
      | exact ret (by simp_all)
      | exact nxt (by simp_all)
  · have hge : l.length ≤ i := by have := of_decide_eq_false h1; omega
    rw [List.drop_of_length_le hge, riRs] at he
    exact h.yes he.symm
theorem ri8_lt : ∀ k, Holds 111 (conRi8Lt k)
  | 0 => conP_holds fun l => by
    intro F I w vals _ _ hpre
    exact absurd (hpre _ rfl).1 (Nat.not_lt_zero _)
  | k + 1 => conP_holds fun l => by
    rcases (show ∃ w : List Nd, w = l from ⟨_, rfl⟩) with ⟨l, rfl⟩
    refine fun_meets1 (AllH.tok (.cons lf8_holds (by kernel_rfl) (.cons gd6_holds (by kernel_rfl) (.cons wr6_holds (by kernel_rfl) (.cons (ri8_lt k) (by kernel_rfl) .nil))))) [] (lsRi8 k) (by kernel_rfl) (by kernel_rfl) (ri8_sum k) fun hpre => Eq.mpr (vcRi8F k l _) ?_
    obtain ⟨h1, h2⟩ : szNds l < k + 1 ∧ bndNds l := hpre _ rfl
    have e : ∀ b, riRs l false = b → [AV.bool b] = compsOf (.bool (riRs l false)) := fun b h => by rw [h]; rfl
    exact ⟨fun hm => Rq.mk ⟨rfl, rfl, rfl, h1, hm, h2⟩ ⟨fun h => qfin rfl (e _ h) rfl rfl, fun h => qfin rfl (e _ h) rfl rfl⟩⟩
theorem ri8_holds : Holds 111 conRi8 := conP_holds fun l => by
  rcases (show ∃ w : List Nd, w = l from ⟨_, rfl⟩) with ⟨l, rfl⟩
  intro F I w vals hH hv hpre
  exact ri8_lt (szNds l + 1) [.row .node l] [] { pre := some (szNds l < szNds l + 1 ∧ bndNds l), res := .bool (riRs l false) } rfl F I w vals hH hv (fun p hp => by injection hp with hp; subst hp; exact ⟨Nat.lt_succ_self _, hpre _ rfl⟩)
theorem ck8_holds : Holds 91 conCk8 := conP_holds fun l => by
  rcases (show ∃ w : List Nd, w = l from ⟨_, rfl⟩) with ⟨l, rfl⟩
  refine fun_meets0 (AllH.tok (.cons cn8_holds (by kernel_rfl) (.cons dp8_holds (by kernel_rfl) (.cons ri8_holds (by kernel_rfl) .nil)))) [] (by kernel_rfl) (by kernel_rfl) fun hpre => Eq.mpr (vcCk8F l _) ?_
  obtain ⟨h, hb⟩ : fineNds l := hpre _ rfl
  have e : ∀ b, checkS l = b → [AV.int .i64 b] = compsOf (.int .i64 (checkS l)) := fun b h => by rw [h]; rfl
  have hd : checkS l = if (decide ((cntNds l : Int) > 300) || decide (dpRs l > 40)) = true then 2 else if riRs l false = true then 0 else 4 := by
    rw [right_eq]; unfold checkS; rw [depth_eq]
  refine Rq.mk h ⟨fun h1 => qfin rfl (e _ ?_) rfl rfl, fun h1 => Rq.mk h ⟨fun h2 => qfin rfl (e _ ?_) rfl rfl, fun h2 => Rq.mk hb ⟨fun h3 => qfin rfl (e _ ?_) rfl rfl, fun h3 => qfin rfl (e _ ?_) rfl rfl⟩⟩⟩
  · rw [hd, h1]; rfl
  · rw [hd, h2, Bool.or_true]; rfl
  · have h3 : riRs l false = false := by rw [← Bool.not_eq_true']; exact h3
    rw [hd, h1, h2, h3]; rfl
  · have h3 : riRs l false = true := by rw [← Bool.not_eq_false']; exact h3
    rw [hd, h1, h2, h3]; rfl
end Go.Proofs.YtnhipiedjekkpaaGreatDoor.AX
end
section
namespace Go.Proofs.YtnhipiedjekkpaaGreatDoor.AXP
open Go Go.Proofs.YtnhipiedjekkpaaGreatDoor.AX
end Go.Proofs.YtnhipiedjekkpaaGreatDoor.AXP
namespace Go.Proofs.YtnhipiedjekkpaaGreatDoor.AX
open Go AXP
end Go.Proofs.YtnhipiedjekkpaaGreatDoor.AX
end
section
namespace Go.Proofs.YtnhipiedjekkpaaGreatDoor.AX
open Go AXP
set_option maxRecDepth 100000
end Go.Proofs.YtnhipiedjekkpaaGreatDoor.AX
end
section
namespace Go.Proofs.YtnhipiedjekkpaaGreatDoor.AXP
open Go Go.Proofs.YtnhipiedjekkpaaGreatDoor.AX
end Go.Proofs.YtnhipiedjekkpaaGreatDoor.AXP
namespace Go.Proofs.YtnhipiedjekkpaaGreatDoor.AX
open Go AXP
set_option maxRecDepth 100000
end Go.Proofs.YtnhipiedjekkpaaGreatDoor.AX
end
section
namespace Go.Proofs.YtnhipiedjekkpaaGreatDoor.AXP
open Go Go.Proofs.YtnhipiedjekkpaaGreatDoor.AX
end Go.Proofs.YtnhipiedjekkpaaGreatDoor.AXP
namespace Go.Proofs.YtnhipiedjekkpaaGreatDoor.AX
open Go AXP
noncomputable def cxZ23 : Cx := cxT (tabLook [(37, conNode')])
noncomputable def cxR23 : Cx := cxT (tabLook [(91, conCk8)])
noncomputable def cxA23 : Cx := cxT (tabLook [(64, conZeroD)])
def lsA23 : LS where
  keep := [(1, .as), (6, .as), (7, .as), (8, .as)]
  left := [(1, .as), (2, .as)]
  sum := fun vs bs K => match vs, bs with
    | [.ptr 0 0, .row .attr a, .int .i64 m, .int .i64 i], [.box [.int .i64 c0, .int .i64 c1, .str c2, .row .attr c3, .str c4, .row .node c5]] => Rq (m = a.length ∧ i = 0 ∧ a.length ≤ maxSl)
      (Br (a.any longA) (K .ret [.ptr 0 0, .bool false] [.box [.int .i64 c0, .int .i64 c1, .str c2, .row .attr c3, .str c4, .row .node c5]]) (K (.exit 0) [.ptr 0 0, .any] [.box [.int .i64 c0, .int .i64 c1, .str c2, .row .attr c3, .str c4, .row .node c5]]))
    | _, _ => False
noncomputable def cxP23 : Cx := cxT (tabLook [(64, conZeroD), (65, conRigD), (66, conAtsD), (67, conWdsD)])
def lsP23 : LS where
  keep := [(1, .as), (6, .as), (7, .as), (8, .as)]
  left := [(1, .as), (2, .as)]
  sum := fun vs bs K => match vs, bs with
    | [.ptr 0 0, .row .int w, .int .i64 m, .int .i64 i], [.box [.int .i64 k, .row .int v, .int .i64 o0, .int .i64 o1, .str o2, .row .attr o3, .str o4, .row .node o5, .int .i64 n0, .int .i64 n1, .str n2, .row .attr n3, .str n4, .row .node n5]] => Rq (m = w.length ∧ i = 0 ∧ w.length ≤ maxSl)
      (Br (w.any oddI) (K .ret [.ptr 0 0, .bool false] [.box [.int .i64 k, .row .int v, .int .i64 o0, .int .i64 o1, .str o2, .row .attr o3, .str o4, .row .node o5, .int .i64 n0, .int .i64 n1, .str n2, .row .attr n3, .str n4, .row .node n5]]) (K (.exit 0) [.ptr 0 0, .any] [.box [.int .i64 k, .row .int v, .int .i64 o0, .int .i64 o1, .str o2, .row .attr o3, .str o4, .row .node o5, .int .i64 n0, .int .i64 n1, .str n2, .row .attr n3, .str n4, .row .node n5]]))
    | _, _ => False
noncomputable def conP23 : Con := conP [.agg .redit] fun (x : Ed) => { pre := some (fineEd x), res := .bool (plainB x) }
noncomputable def cxC23 : Cx := cxT (tabLook [(31, conP23)])
def lsC23 : LS where
  keep := [(8, .as), (9, .as), (10, .as)]
  left := [(2, .as)]
  sum := fun vs bs K => match vs, bs with
    | [.row .redit s, .int .i64 m, .int .i64 i], [] => Rq (m = s.length ∧ i = 0 ∧ s.length ≤ maxSl ∧ fineEds s) (Br (s.any npB) (K .ret [.int .i64 4] []) (K (.exit 0) [.any] []))
    | _, _ => False
def conC23 : Con := conP [.row .redit] fun (s : List Ed) => { pre := some (fineEds s), res := .int .i64 (dchkS s) }
def lsRef23 : LS where
  keep := [(3, .own .redit), (6, .as), (7, .as), (8, .as)]
  left := [(3, .own .redit)]
  sum := fun vs bs K => match vs, bs with
    | [.own 0 0, .row .edit s, .int .i64 m, .int .i64 i], [.rowb 0 .redit l] => Rq (m = s.length ∧ i = 0 ∧ l.length = 0 ∧ s.length * 224 ≤ maxSl) (K (.exit 0) [.own 0 0] [.rowb 0 .redit s])
    | _, _ => False
def conRef23 : Con := conP [.row .edit] fun (s : List Ed) => { pre := some (s.length * 224 ≤ maxSl), res := .row .redit s }
end Go.Proofs.YtnhipiedjekkpaaGreatDoor.AX
end
section
namespace Go.Proofs.YtnhipiedjekkpaaGreatDoor.AX
open Go AXP
set_option maxRecDepth 100000
theorem vcZ23F (n : Nd) (Q : List AV → List Blk → List Blk → Prop) : (funA cxZ23 (LL Tryz.f64 []) Tryz.f64 [.agg (nodeL n)] [] [] Q) = (
Q
 [AV.bool
 (eqNd (Nd.mk n.1 n.2 n.3 n.4 n.5 n.6)
 (Nd.mk (0 : Int) (0 : Int) (ByteArray.mk (Array.mk [])) [] (ByteArray.mk (Array.mk [])) []))]
 [] []) := by kernel_rfl
theorem vcR23F (n : Nd) (Q : List AV → List Blk → List Blk → Prop) : (funA cxR23 (LL Tryz.f65 []) Tryz.f65 [.agg (nodeL n)] [] [] Q) = (
Rq (fineNds [Nd.mk n.1 n.2 n.3 n.4 n.5 n.6]) (Q [AV.bool (checkS [Nd.mk n.1 n.2 n.3 n.4 n.5 n.6] == (0 : Int))] [] [])) := by kernel_rfl
theorem vcA23B (n : Nd) (a : List At) (m i : Int) (K : Ex → List AV → List Blk → Prop) : (bodyA cxA23 (LL Tryz.f66 [lsA23]) Tryz.f66.ntmps (loopAt Tryz.f66 0).1 (loopAt Tryz.f66 0).2 lsA23.keep lsA23.left K [.ptr 0 0, .row .attr a, .int .i64 m, .int .i64 i] [.box (nodeL n)]) = (
Br (decide (i < m))
 (Rq ((0 : Int) ≤ i ∧ i < (↑a.length : Int))
 (Br (decide ((↑(rd Ty.attr a i).1.size : Int) > (65536 : Int)))
 (Gv ((rd Ty.attr a i).1.size ≤ maxSl)
 (K Ex.ret [AV.ptr (0 : Nat) (0 : Nat), AV.bool false]
 [Blk.box
 [AV.int IntKind.i64 n.1, AV.int IntKind.i64 n.2, AV.str n.3, AV.row Ty.attr n.4, AV.str n.5,
 AV.row Ty.node n.6]]))
 (Gv ((rd Ty.attr a i).1.size ≤ maxSl)
 (Gv ((rd Ty.attr a i).2.size ≤ maxSl)
 (Br (decide ((↑(rd Ty.attr a i).2.size : Int) > (65536 : Int)))
 (K Ex.ret [AV.ptr (0 : Nat) (0 : Nat), AV.bool false]
 [Blk.box
 [AV.int IntKind.i64 n.1, AV.int IntKind.i64 n.2, AV.str n.3, AV.row Ty.attr n.4, AV.str n.5,
 AV.row Ty.node n.6]])
 (K Ex.norm
 [AV.ptr (0 : Nat) (0 : Nat), AV.row Ty.attr a, AV.int IntKind.i64 m,
 AV.int IntKind.i64 (IntKind.i64.wrap (i + (1 : Int)))]
 [Blk.box
 [AV.int IntKind.i64 n.1, AV.int IntKind.i64 n.2, AV.str n.3, AV.row Ty.attr n.4, AV.str n.5,
 AV.row Ty.node n.6]]))))))
 (K (Ex.exit (0 : Nat)) [AV.ptr (0 : Nat) (0 : Nat), AV.any]
 [Blk.box
 [AV.int IntKind.i64 n.1, AV.int IntKind.i64 n.2, AV.str n.3, AV.row Ty.attr n.4, AV.str n.5,
 AV.row Ty.node n.6]])) := by kernel_rfl
theorem vcA23F (n : Nd) (Q : List AV → List Blk → List Blk → Prop) : (funA cxA23 (LL Tryz.f66 [lsA23]) Tryz.f66 [.agg (nodeL n)] [] [] Q) = (
Gv (n.4.length ≤ maxSl)
 (Rq ((↑n.4.length : Int) = (↑n.4.length : Int) ∧ (0 : Int) = (0 : Int) ∧ n.4.length ≤ maxSl)
 (Br (n.4.any longA) (Q [AV.bool false] [] [])
 (Br (decide ((↑n.4.length : Int) < (13 : Int)))
 (Gv (n.4.length ≤ maxSl) (Q [AV.bool (zeroB (Nd.mk n.1 n.2 n.3 [] n.5 n.6))] [] []))
 (Gv (n.4.length ≤ maxSl) (Q [AV.bool false] [] [])))))) := by kernel_rfl
theorem vcW23F (n : Nd) (Q : List AV → List Blk → List Blk → Prop) : (funA cxA23 (LL Tryz.f67 []) Tryz.f67 [.agg (nodeL n)] [] [] Q) = (
Br (decide ((↑n.5.size : Int) ≤ (65536 : Int)))
 (Gv (n.5.size ≤ maxSl) (Q [AV.bool (zeroB (Nd.mk n.1 n.2 n.3 n.4 (ByteArray.mk (Array.mk [])) n.6))] [] []))
 (Gv (n.5.size ≤ maxSl) (Q [AV.bool false] [] []))) := by kernel_rfl
theorem vcP23B (x : Ed) (w : List Int) (m i : Int) (K : Ex → List AV → List Blk → Prop) : (bodyA cxP23 (LL Tryz.f31 [lsP23]) Tryz.f31.ntmps (loopAt Tryz.f31 0).1 (loopAt Tryz.f31 0).2 lsP23.keep lsP23.left K [.ptr 0 0, .row .int w, .int .i64 m, .int .i64 i] [.box (editL x)]) = (
Br (decide (i < m))
 (Rq ((0 : Int) ≤ i ∧ i < (↑w.length : Int))
 (Br (decide (rd Ty.int w i < (0 : Int)))
 (K Ex.ret [AV.ptr (0 : Nat) (0 : Nat), AV.bool false]
 [Blk.box
 [AV.int IntKind.i64 x.1, AV.row Ty.int x.2, AV.int IntKind.i64 x.3.1, AV.int IntKind.i64 x.3.2,
 AV.str x.3.3, AV.row Ty.attr x.3.4, AV.str x.3.5, AV.row Ty.node x.3.6, AV.int IntKind.i64 x.4.1,
 AV.int IntKind.i64 x.4.2, AV.str x.4.3, AV.row Ty.attr x.4.4, AV.str x.4.5, AV.row Ty.node x.4.6]])
 (Br (decide (rd Ty.int w i > (300 : Int)))
 (K Ex.ret [AV.ptr (0 : Nat) (0 : Nat), AV.bool false]
 [Blk.box
 [AV.int IntKind.i64 x.1, AV.row Ty.int x.2, AV.int IntKind.i64 x.3.1, AV.int IntKind.i64 x.3.2,
 AV.str x.3.3, AV.row Ty.attr x.3.4, AV.str x.3.5, AV.row Ty.node x.3.6, AV.int IntKind.i64 x.4.1,
 AV.int IntKind.i64 x.4.2, AV.str x.4.3, AV.row Ty.attr x.4.4, AV.str x.4.5, AV.row Ty.node x.4.6]])
 (K Ex.norm
 [AV.ptr (0 : Nat) (0 : Nat), AV.row Ty.int w, AV.int IntKind.i64 m,
 AV.int IntKind.i64 (IntKind.i64.wrap (i + (1 : Int)))]
 [Blk.box
 [AV.int IntKind.i64 x.1, AV.row Ty.int x.2, AV.int IntKind.i64 x.3.1, AV.int IntKind.i64 x.3.2,
 AV.str x.3.3, AV.row Ty.attr x.3.4, AV.str x.3.5, AV.row Ty.node x.3.6, AV.int IntKind.i64 x.4.1,
 AV.int IntKind.i64 x.4.2, AV.str x.4.3, AV.row Ty.attr x.4.4, AV.str x.4.5, AV.row Ty.node x.4.6]]))))
 (K (Ex.exit (0 : Nat)) [AV.ptr (0 : Nat) (0 : Nat), AV.any]
 [Blk.box
 [AV.int IntKind.i64 x.1, AV.row Ty.int x.2, AV.int IntKind.i64 x.3.1, AV.int IntKind.i64 x.3.2, AV.str x.3.3,
 AV.row Ty.attr x.3.4, AV.str x.3.5, AV.row Ty.node x.3.6, AV.int IntKind.i64 x.4.1, AV.int IntKind.i64 x.4.2,
 AV.str x.4.3, AV.row Ty.attr x.4.4, AV.str x.4.5, AV.row Ty.node x.4.6]])) := by kernel_rfl
theorem vcP23F (x : Ed) (Q : List AV → List Blk → List Blk → Prop) : (funA cxP23 (LL Tryz.f31 [lsP23]) Tryz.f31 [.agg (editL x)] [] [] Q) = (
Gv (x.2.length ≤ maxSl)
 (Rq ((↑x.2.length : Int) = (↑x.2.length : Int) ∧ (0 : Int) = (0 : Int) ∧ x.2.length ≤ maxSl)
 (Br (x.2.any oddI) (Q [AV.bool false] [] [])
 (Br (decide ((↑x.2.length : Int) < (1 : Int))) (Gv (x.2.length ≤ maxSl) (Q [AV.bool false] [] []))
 (Gv (x.2.length ≤ maxSl)
 (Gv (x.2.length ≤ maxSl)
 (Br (decide ((↑x.2.length : Int) > (41 : Int))) (Q [AV.bool false] [] [])
 (Br (x.1 == (1 : Int))
 (Br (zeroB (Nd.mk x.3.1 x.3.2 x.3.3 x.3.4 x.3.5 x.3.6))
 (Rq (fineNds [Nd.mk x.4.1 x.4.2 x.4.3 x.4.4 x.4.5 x.4.6])
 (Q [AV.bool (rig1 (Nd.mk x.4.1 x.4.2 x.4.3 x.4.4 x.4.5 x.4.6))] [] []))
 (Q [AV.bool false] [] []))
 (Br (x.1 == (2 : Int))
 (Rq (fineNds [Nd.mk x.3.1 x.3.2 x.3.3 x.3.4 x.3.5 x.3.6])
 (Br (rig1 (Nd.mk x.3.1 x.3.2 x.3.3 x.3.4 x.3.5 x.3.6))
 (Q [AV.bool (zeroB (Nd.mk x.4.1 x.4.2 x.4.3 x.4.4 x.4.5 x.4.6))] [] [])
 (Q [AV.bool false] [] [])))
 (Br (x.1 == (3 : Int))
 (Br (atsB (Nd.mk x.3.1 x.3.2 x.3.3 x.3.4 x.3.5 x.3.6))
 (Q [AV.bool (atsB (Nd.mk x.4.1 x.4.2 x.4.3 x.4.4 x.4.5 x.4.6))] [] []) (Q [AV.bool false] [] []))
 (Br (x.1 == (4 : Int))
 (Br (wdsB (Nd.mk x.3.1 x.3.2 x.3.3 x.3.4 x.3.5 x.3.6))
 (Q [AV.bool (wdsB (Nd.mk x.4.1 x.4.2 x.4.3 x.4.4 x.4.5 x.4.6))] [] [])
 (Q [AV.bool false] [] []))
 (Q [AV.bool false] [] [])))))))))))) := by kernel_rfl
theorem vcC23B (s : List Ed) (m i : Int) (K : Ex → List AV → List Blk → Prop) : (bodyA cxC23 (LL Tryz.f14 [lsC23]) Tryz.f14.ntmps (loopAt Tryz.f14 0).1 (loopAt Tryz.f14 0).2 lsC23.keep lsC23.left K [.row .redit s, .int .i64 m, .int .i64 i] []) = (
Br (decide (i < m))
 (Rq ((0 : Int) ≤ i ∧ i < (↑s.length : Int))
 (Rq
 (fineEd
 (Ed.mk (rd Ty.redit s i).1 (rd Ty.redit s i).2
 (Nd.mk (rd Ty.redit s i).3.1 (rd Ty.redit s i).3.2 (rd Ty.redit s i).3.3 (rd Ty.redit s i).3.4
 (rd Ty.redit s i).3.5 (rd Ty.redit s i).3.6)
 (Nd.mk (rd Ty.redit s i).4.1 (rd Ty.redit s i).4.2 (rd Ty.redit s i).4.3 (rd Ty.redit s i).4.4
 (rd Ty.redit s i).4.5 (rd Ty.redit s i).4.6)))
 (Br
 (!plainB
 (Ed.mk (rd Ty.redit s i).1 (rd Ty.redit s i).2
 (Nd.mk (rd Ty.redit s i).3.1 (rd Ty.redit s i).3.2 (rd Ty.redit s i).3.3 (rd Ty.redit s i).3.4
 (rd Ty.redit s i).3.5 (rd Ty.redit s i).3.6)
 (Nd.mk (rd Ty.redit s i).4.1 (rd Ty.redit s i).4.2 (rd Ty.redit s i).4.3 (rd Ty.redit s i).4.4
 (rd Ty.redit s i).4.5 (rd Ty.redit s i).4.6)))
 (K Ex.ret [AV.int IntKind.i64 (4 : Int)] [])
 (K Ex.norm [AV.row Ty.redit s, AV.int IntKind.i64 m, AV.int IntKind.i64 (IntKind.i64.wrap (i + (1 : Int)))]
 []))))
 (K (Ex.exit (0 : Nat)) [AV.any] [])) := by kernel_rfl
theorem vcC23F (s : List Ed) (Q : List AV → List Blk → List Blk → Prop) : (funA cxC23 (LL Tryz.f14 [lsC23]) Tryz.f14 [.row .redit s] [] [] Q) = (
Gv (s.length ≤ maxSl)
 (Br (decide ((↑s.length : Int) > (400 : Int))) (Q [AV.int IntKind.i64 (2 : Int)] [] [])
 (Gv (s.length ≤ maxSl)
 (Rq ((↑s.length : Int) = (↑s.length : Int) ∧ (0 : Int) = (0 : Int) ∧ s.length ≤ maxSl ∧ fineEds s)
 (Br (s.any npB) (Q [AV.int IntKind.i64 (4 : Int)] [] []) (Q [AV.int IntKind.i64 (0 : Int)] [] [])))))) := by kernel_rfl
theorem vcRef23B (l s : List Ed) (m i : Int) (K : Ex → List AV → List Blk → Prop) : (bodyA cx0 (LL Tryz.f12 [lsRef23]) Tryz.f12.ntmps (loopAt Tryz.f12 0).1 (loopAt Tryz.f12 0).2 lsRef23.keep lsRef23.left K [.own 0 0, .row .edit s, .int .i64 m, .int .i64 i] [.rowb 0 .redit l]) = (
Br (decide (i < m))
 (Rq ((0 : Int) ≤ i ∧ i < (↑s.length : Int))
 (Rq
 ((l.length +
 [Ed.mk (rd Ty.edit s i).1 (rd Ty.edit s i).2
 (Nd.mk (rd Ty.edit s i).3.1 (rd Ty.edit s i).3.2 (rd Ty.edit s i).3.3 (rd Ty.edit s i).3.4
 (rd Ty.edit s i).3.5 (rd Ty.edit s i).3.6)
 (Nd.mk (rd Ty.edit s i).4.1 (rd Ty.edit s i).4.2 (rd Ty.edit s i).4.3 (rd Ty.edit s i).4.4
 (rd Ty.edit s i).4.5 (rd Ty.edit s i).4.6)].length) *
 (224 : Nat) ≤
 maxSl)
 (K Ex.norm
 [AV.own (0 : Nat) (0 : Nat), AV.row Ty.edit s, AV.int IntKind.i64 m,
 AV.int IntKind.i64 (IntKind.i64.wrap (i + (1 : Int)))]
 [Blk.rowb (0 : Nat) Ty.redit
 (l ++
 [Ed.mk (rd Ty.edit s i).1 (rd Ty.edit s i).2
 (Nd.mk (rd Ty.edit s i).3.1 (rd Ty.edit s i).3.2 (rd Ty.edit s i).3.3 (rd Ty.edit s i).3.4
 (rd Ty.edit s i).3.5 (rd Ty.edit s i).3.6)
 (Nd.mk (rd Ty.edit s i).4.1 (rd Ty.edit s i).4.2 (rd Ty.edit s i).4.3 (rd Ty.edit s i).4.4
 (rd Ty.edit s i).4.5 (rd Ty.edit s i).4.6)])])))
 (K (Ex.exit (0 : Nat)) [AV.own (0 : Nat) (0 : Nat)] [Blk.rowb (0 : Nat) Ty.redit l])) := by kernel_rfl
theorem vcRef23F (s : List Ed) (Q : List AV → List Blk → List Blk → Prop) : (funA cx0 (LL Tryz.f12 [lsRef23]) Tryz.f12 [.row .edit s] [] [.row .redit] Q) = (
Gv (s.length ≤ maxSl)
 (Rq
 ((↑s.length : Int) = (↑s.length : Int) ∧
 (0 : Int) = (0 : Int) ∧ (0 : Nat) = (0 : Nat) ∧ s.length * (224 : Nat) ≤ maxSl)
 (Q [AV.row Ty.redit s] [] []))) := by kernel_rfl
end Go.Proofs.YtnhipiedjekkpaaGreatDoor.AX
end
section
namespace Go.Proofs.YtnhipiedjekkpaaGreatDoor.AXP
open Go Go.Proofs.YtnhipiedjekkpaaGreatDoor.AX
theorem zero_eq (n : Nd) : zeroB n = eqNd n zN := by unfold zeroB; simp [eql]
end Go.Proofs.YtnhipiedjekkpaaGreatDoor.AXP
namespace Go.Proofs.YtnhipiedjekkpaaGreatDoor.AX
open Go AXP
set_option maxRecDepth 100000
theorem rd_red {a : List Ed} {i : Nat} (h : i < a.length) : rd .redit a (i : Int) = a[i] := rd_get (t := .redit) h
theorem z23_holds : Holds 64 conZeroD := conP_holds fun n => by
  rcases (show ∃ w : Nd, w = n from ⟨_, rfl⟩) with ⟨n, rfl⟩
  refine fun_meets0 (AllH.tok (.cons node_holds (by kernel_rfl) .nil)) [] (by kernel_rfl) (by kernel_rfl) fun _ => Eq.mpr (vcZ23F n _) ?_
  rw [nd_eta]
  refine qfin rfl ?_ rfl rfl
  show _ = [AV.bool (zeroB n)]
  rw [zero_eq]; rfl
theorem r23_holds : Holds 65 conRigD := conP_holds fun n => by
  rcases (show ∃ w : Nd, w = n from ⟨_, rfl⟩) with ⟨n, rfl⟩
  refine fun_meets0 (AllH.tok (.cons ck8_holds (by kernel_rfl) .nil)) [] (by kernel_rfl) (by kernel_rfl) fun hpre => Eq.mpr (vcR23F n _) ?_
  rw [nd_eta]
  exact Rq.mk (hpre _ rfl) (qfin rfl rfl rfl rfl)
theorem tokA23 : TOK cxA23 := AllH.tok (.cons z23_holds (by kernel_rfl) .nil)
theorem a23_sum : SumOK cxA23 (LL Tryz.f66 [lsA23]) Tryz.f66.ntmps (loopAt Tryz.f66 0).1 (loopAt Tryz.f66 0).2 lsA23 := by
  intro vs bs K hs
  unfold lsA23 at hs
  simp only at hs
  split at hs
  case h_2 => exact hs.elim
  rename_i a m i c0 c1 c2 c3 c4 c5
  rcases (show ∃ w : List At, w = a from ⟨_, rfl⟩) with ⟨a, rfl⟩
  obtain ⟨⟨rfl, rfl, hm⟩, h⟩ := hs
  refine sum_rec (σ := Nat) (fun i => [.ptr 0 0, .row .attr a, .int .i64 a.length, .int .i64 (i : Nat)]) (fun _ => [.box (nodeL ⟨c0, c1, c2, c3, c4, c5⟩)]) (fun i => i ≤ a.length ∧ (a.drop i).any longA = a.any longA) (fun i => a.length - i) ?_ 0 ⟨Nat.zero_le _, rfl⟩
  rintro i ⟨hi, ha⟩ R hR
  refine Eq.mpr (vcA23B ⟨c0, c1, c2, c3, c4, c5⟩ a a.length i _) ⟨fun h1 => ?_, fun h1 => ?_⟩
  · have hlt : i < a.length := by have := of_decide_eq_true h1; omega
    rw [rd_at hlt, wrap_succ hlt hm]
    rw [List.drop_eq_getElem_cons hlt, List.any_cons] at ha
    have hL : longA a[i] = (bigB a[i].name || bigB a[i].value) := rfl
    refine Rq.mk ⟨by omega, by omega⟩ ⟨fun h2 => ⟨fun _ => h.yes ?_⟩, fun h2 => ⟨fun _ => ⟨fun _ => ⟨fun h3 => h.yes ?_, fun h3 => hR (i + 1) ⟨hlt, ?_⟩ (by omega)⟩⟩⟩⟩
    · rw [hL, show bigB a[i].name = true from h2, Bool.true_or, Bool.true_or] at ha; exact ha.symm
    · rw [hL, show bigB a[i].value = true from h3, Bool.or_true, Bool.true_or] at ha; exact ha.symm
    · rw [hL, show bigB a[i].name = false from h2, show bigB a[i].value = false from h3] at ha; exact ha
  · have hge : a.length ≤ i := by have := of_decide_eq_false h1; omega
    rw [List.drop_of_length_le hge] at ha
    exact h.no ha.symm
theorem a23_holds : Holds 66 conAtsD := conP_holds fun n => by
  rcases (show ∃ w : Nd, w = n from ⟨_, rfl⟩) with ⟨n, rfl⟩
  refine fun_meets1 tokA23 [] lsA23 (by kernel_rfl) (by kernel_rfl) a23_sum fun _ => Eq.mpr (vcA23F n _) ?_
  have e : (decide ((n.attrs.length : Int) ≤ 12)) = (decide ((n.attrs.length : Int) < 13)) := by
    rw [Bool.eq_iff_iff, decide_eq_true_eq, decide_eq_true_eq]; omega
  refine ⟨fun hm => Rq.mk ⟨rfl, rfl, hm⟩ ⟨fun h1 => qfin rfl ?_ rfl rfl, fun h1 => ⟨fun h2 => ⟨fun _ => qfin rfl ?_ rfl rfl⟩, fun h2 => ⟨fun _ => qfin rfl ?_ rfl rfl⟩⟩⟩⟩ <;> show [AV.bool _] = [AV.bool (atsB n)] <;> unfold atsB
  · rw [show n.attrs.any longA = true from h1]; simp
  · rw [e, show decide ((n.attrs.length : Int) < 13) = true from h2, show n.attrs.any longA = false from h1]; simp
  · rw [e, show decide ((n.attrs.length : Int) < 13) = false from h2]; simp
theorem w23_holds : Holds 67 conWdsD := conP_holds fun n => by
  rcases (show ∃ w : Nd, w = n from ⟨_, rfl⟩) with ⟨n, rfl⟩
  refine fun_meets0 tokA23 [] (by kernel_rfl) (by kernel_rfl) fun _ => Eq.mpr (vcW23F n _) ?_
  have e : (!bigB n.text) = decide ((n.text.size : Int) ≤ 65536) := by
    unfold bigB
    rw [Bool.eq_iff_iff, Bool.not_eq_true', decide_eq_false_iff_not, decide_eq_true_eq]; omega
  refine ⟨fun h1 => ⟨fun _ => qfin rfl ?_ rfl rfl⟩, fun h1 => ⟨fun _ => qfin rfl ?_ rfl rfl⟩⟩ <;> show [AV.bool _] = [AV.bool (wdsB n)] <;> unfold wdsB <;> rw [e]
  · rw [show decide ((n.text.size : Int) ≤ 65536) = true from h1, Bool.and_true]
  · rw [show decide ((n.text.size : Int) ≤ 65536) = false from h1, Bool.and_false]
theorem tokP23 : TOK cxP23 := AllH.tok (.cons z23_holds (by kernel_rfl) (.cons r23_holds (by kernel_rfl) (.cons a23_holds (by kernel_rfl) (.cons w23_holds (by kernel_rfl) .nil))))
theorem p23_sum : SumOK cxP23 (LL Tryz.f31 [lsP23]) Tryz.f31.ntmps (loopAt Tryz.f31 0).1 (loopAt Tryz.f31 0).2 lsP23 := by
  intro vs bs K hs
  unfold lsP23 at hs
  simp only at hs
  split at hs
  case h_2 => exact hs.elim
  rename_i w m i k v o0 o1 o2 o3 o4 o5 n0 n1 n2 n3 n4 n5
  rcases (show ∃ z : List Int, z = w from ⟨_, rfl⟩) with ⟨w, rfl⟩
  obtain ⟨⟨rfl, rfl, hm⟩, h⟩ := hs
  refine sum_rec (σ := Nat) (fun i => [.ptr 0 0, .row .int w, .int .i64 w.length, .int .i64 (i : Nat)]) (fun _ => [.box (editL ⟨k, v, ⟨o0, o1, o2, o3, o4, o5⟩, ⟨n0, n1, n2, n3, n4, n5⟩⟩)]) (fun i => i ≤ w.length ∧ (w.drop i).any oddI = w.any oddI) (fun i => w.length - i) ?_ 0 ⟨Nat.zero_le _, rfl⟩
  rintro i ⟨hi, ha⟩ R hR
  refine Eq.mpr (vcP23B ⟨k, v, ⟨o0, o1, o2, o3, o4, o5⟩, ⟨n0, n1, n2, n3, n4, n5⟩⟩ w w.length i _) ⟨fun h1 => ?_, fun h1 => ?_⟩
  · have hlt : i < w.length := by have := of_decide_eq_true h1; omega
    have hg : rd .int w (i : Int) = w[i] := rd_get (t := .int) hlt
    rw [hg, wrap_succ hlt hm]
    rw [List.drop_eq_getElem_cons hlt, List.any_cons] at ha
    have hL : oddI w[i] = (decide (w[i] < 0) || decide (w[i] > 300)) := rfl
    refine Rq.mk ⟨by omega, by omega⟩ ⟨fun h2 => h.yes ?_, fun h2 => ⟨fun h3 => h.yes ?_, fun h3 => hR (i + 1) ⟨hlt, ?_⟩ (by omega)⟩⟩
    · rw [hL, h2, Bool.true_or, Bool.true_or] at ha; exact ha.symm
    · rw [hL, h3, Bool.or_true, Bool.true_or] at ha; exact ha.symm
    · rw [hL, h2, h3] at ha; exact ha
  · have hge : w.length ≤ i := by have := of_decide_eq_false h1; omega
    rw [List.drop_of_length_le hge] at ha
    exact h.no ha.symm
theorem p23_holds : Holds 31 conP23 := conP_holds fun x => by
  rcases (show ∃ w : Ed, w = x from ⟨_, rfl⟩) with ⟨x, rfl⟩
  refine fun_meets1 tokP23 [] lsP23 (by kernel_rfl) (by kernel_rfl) p23_sum fun hpre => Eq.mpr (vcP23F x _) ?_
  have hf : fineEd x := hpre _ rfl
  have fin : ∀ b, plainB x = b → FinQ { pre := some (fineEd x), res := .bool (plainB x) } [AV.bool b] [] [] := fun b h => qfin rfl (by rw [h]; rfl) rfl rfl
  simp only [nd_eta]
  refine ⟨fun hm => Rq.mk ⟨by trivial, by trivial, hm⟩ ⟨fun h1 => fin _ ?_, fun h1 => ⟨fun h2 => ⟨fun _ => fin _ ?_⟩, fun h2 => ⟨fun _ => ⟨fun _ => ⟨fun h3 => fin _ ?_, fun h3 => ?_⟩⟩⟩⟩⟩⟩
  · unfold plainB; rw [show x.way.any oddI = true from h1]; simp
  · have h2 := of_decide_eq_true h2
    unfold plainB; rw [decide_eq_false (show ¬ (x.way.length : Int) > 0 by omega)]; simp
  · have h3 := of_decide_eq_true h3
    unfold plainB; rw [decide_eq_false (show ¬ (x.way.length : Int) ≤ 41 by omega)]; simp
  have h2 := of_decide_eq_false h2
  have h3 := of_decide_eq_false h3
  have hpl : ∀ b, (decide (1 ≤ x.what ∧ x.what ≤ 4) && partB x) = b → plainB x = b := fun b hb => by
    unfold plainB
    rw [decide_eq_true (show (x.way.length : Int) > 0 by omega), decide_eq_true (show (x.way.length : Int) ≤ 41 by omega), show x.way.any oddI = false from h1]
    simp only [Bool.and_true, Bool.not_false]
    exact hb
  have part : ∀ b, (1 ≤ x.what ∧ x.what ≤ 4) → partB x = b → plainB x = b := fun b hk hb => hpl b (by rw [decide_eq_true hk, Bool.true_and, hb])
  refine ⟨fun k1 => ?_, fun k1 => ⟨fun k2 => ?_, fun k2 => ⟨fun k3 => ?_, fun k3 => ⟨fun k4 => ?_, fun k4 => fin _ (hpl _ ?_)⟩⟩⟩⟩
  · have k1 : x.what = 1 := by simpa using k1
    have hp : partB x = (zeroB x.old && rig1 x.new) := by unfold partB; rw [if_pos k1]
    refine ⟨fun h4 => Rq.mk (hf.1 k1) (fin _ (part _ (by omega) ?_)), fun h4 => fin _ (part _ (by omega) ?_)⟩ <;> rw [hp, h4] <;> rfl
  · have k1 : ¬ x.what = 1 := by simpa using k1
    have k2 : x.what = 2 := by simpa using k2
    have hp : partB x = (zeroB x.new && rig1 x.old) := by unfold partB; rw [if_neg k1, if_pos k2]
    refine Rq.mk (hf.2 k2) ⟨fun h4 => fin _ (part _ (by omega) ?_), fun h4 => fin _ (part _ (by omega) ?_)⟩ <;> rw [hp, h4]
    · rw [Bool.and_true]
    · rw [Bool.and_false]
  · have k1 : ¬ x.what = 1 := by simpa using k1
    have k2 : ¬ x.what = 2 := by simpa using k2
    have k3 : x.what = 3 := by simpa using k3
    have hp : partB x = (atsB x.old && atsB x.new) := by unfold partB; rw [if_neg k1, if_neg k2, if_pos k3]
    refine ⟨fun h4 => fin _ (part _ (by omega) ?_), fun h4 => fin _ (part _ (by omega) ?_)⟩ <;> rw [hp, h4] <;> rfl
  · have k1 : ¬ x.what = 1 := by simpa using k1
    have k2 : ¬ x.what = 2 := by simpa using k2
    have k3 : ¬ x.what = 3 := by simpa using k3
    have k4 : x.what = 4 := by simpa using k4
    have hp : partB x = (wdsB x.old && wdsB x.new) := by unfold partB; rw [if_neg k1, if_neg k2, if_neg k3, if_pos k4]
    refine ⟨fun h4 => fin _ (part _ (by omega) ?_), fun h4 => fin _ (part _ (by omega) ?_)⟩ <;> rw [hp, h4] <;> rfl
  · have k1 : ¬ x.what = 1 := by simpa using k1
    have k2 : ¬ x.what = 2 := by simpa using k2
    have k3 : ¬ x.what = 3 := by simpa using k3
    have k4 : ¬ x.what = 4 := by simpa using k4
    rw [decide_eq_false (show ¬ (1 ≤ x.what ∧ x.what ≤ 4) by omega)]; rfl
theorem c23_sum : SumOK cxC23 (LL Tryz.f14 [lsC23]) Tryz.f14.ntmps (loopAt Tryz.f14 0).1 (loopAt Tryz.f14 0).2 lsC23 := by
  intro vs bs K hs
  unfold lsC23 at hs
  simp only at hs
  split at hs
  case h_2 => exact hs.elim
  rename_i s m i
  rcases (show ∃ w : List Ed, w = s from ⟨_, rfl⟩) with ⟨s, rfl⟩
  obtain ⟨⟨rfl, rfl, hm, hf⟩, h⟩ := hs
  refine sum_rec (σ := Nat) (fun i => [.row .redit s, .int .i64 s.length, .int .i64 (i : Nat)]) (fun _ => []) (fun i => i ≤ s.length ∧ (s.drop i).any npB = s.any npB) (fun i => s.length - i) ?_ 0 ⟨Nat.zero_le _, rfl⟩
  rintro i ⟨hi, ha⟩ R hR
  refine Eq.mpr (vcC23B s s.length i _) ⟨fun h1 => ?_, fun h1 => ?_⟩
  · have hlt : i < s.length := by have := of_decide_eq_true h1; omega
    rw [rd_red hlt, ed_eta, wrap_succ hlt hm]
    rw [List.drop_eq_getElem_cons hlt, List.any_cons] at ha
    refine Rq.mk ⟨by omega, by omega⟩ (Rq.mk (hf _ (List.getElem_mem hlt)) ⟨fun h2 => h.yes ?_, fun h2 => hR (i + 1) ⟨hlt, ?_⟩ (by omega)⟩)
    · rw [show npB s[i] = true from h2, Bool.true_or] at ha; exact ha.symm
    · rw [show npB s[i] = false from h2, Bool.false_or] at ha; exact ha
  · have hge : s.length ≤ i := by have := of_decide_eq_false h1; omega
    rw [List.drop_of_length_le hge] at ha
    exact h.no ha.symm
theorem c23_holds : Holds 14 conC23 := conP_holds fun s => by
  rcases (show ∃ w : List Ed, w = s from ⟨_, rfl⟩) with ⟨s, rfl⟩
  refine fun_meets1 (AllH.tok (.cons p23_holds (by kernel_rfl) .nil)) [] lsC23 (by kernel_rfl) (by kernel_rfl) c23_sum fun hpre => Eq.mpr (vcC23F s _) ?_
  refine ⟨fun hm => ⟨fun h1 => qfin rfl ?_ rfl rfl, fun h1 => ⟨fun _ => Rq.mk ⟨rfl, rfl, hm, hpre _ rfl⟩ ⟨fun h2 => qfin rfl ?_ rfl rfl, fun h2 => qfin rfl ?_ rfl rfl⟩⟩⟩⟩ <;> show [AV.int .i64 _] = [AV.int .i64 (dchkS s)] <;> unfold dchkS
  · rw [if_pos (of_decide_eq_true h1)]
  · rw [if_neg (of_decide_eq_false h1), if_pos h2]
  · rw [if_neg (of_decide_eq_false h1), if_neg (by rw [h2]; decide)]
theorem ref23_sum : SumOK cx0 (LL Tryz.f12 [lsRef23]) Tryz.f12.ntmps (loopAt Tryz.f12 0).1 (loopAt Tryz.f12 0).2 lsRef23 := by
  intro vs bs K hs
  unfold lsRef23 at hs
  simp only at hs
  split at hs
  case h_2 => exact hs.elim
  rename_i s m i l
  obtain ⟨⟨rfl, rfl, h0, hl⟩, h⟩ := hs
  obtain rfl : l = [] := List.eq_nil_of_length_eq_zero h0
  have hm : s.length ≤ maxSl := by omega
  refine sum_for (fun _ => True) (fun i => [.own 0 0, .row .edit s, .int .i64 s.length, .int .i64 i]) (fun i => [.rowb 0 .redit (s.take i)]) s.length (fun i hi _ R hR => ?_) (fun _ R => ?_) trivial
  · refine Eq.mpr (vcRef23B _ s s.length i _) ⟨fun _ => ⟨⟨by omega, by omega⟩, ?_⟩, fun h => lt_of h hi⟩
    rw [rd_ed hi, ed_eta]
    refine ⟨by simp only [List.length_take, List.length_cons, List.length_nil]; omega, ?_⟩
    rw [wrap_succ hi hm]
    have := hR trivial
    rw [← take_snoc hi] at this
    exact this
  · refine Eq.mpr (vcRef23B _ s s.length s.length _) ⟨fun h => not_lt_self h, fun _ => ?_⟩
    rw [List.take_length]; exact h
theorem ref23_holds : Holds 12 conRef23 := conP_holds fun s => by
  refine fun_meets1 tok0 [.row .redit] lsRef23 (by kernel_rfl) (by kernel_rfl) ref23_sum fun hpre => Eq.mpr (vcRef23F s _) ?_
  exact ⟨fun hm => ⟨⟨rfl, rfl, rfl, hpre _ rfl⟩, qfin rfl rfl rfl rfl⟩⟩
end Go.Proofs.YtnhipiedjekkpaaGreatDoor.AX
end
section
namespace Go.Proofs.YtnhipiedjekkpaaGreatDoor.AXP
open Go Go.Proofs.YtnhipiedjekkpaaGreatDoor.AX
def tkEnd (b : ByteArray) : Int := match takeN (kb b) with | some (_, r) => ((b.size - r.length : Nat) : Int) | none => -1
end Go.Proofs.YtnhipiedjekkpaaGreatDoor.AXP
namespace Go.Proofs.YtnhipiedjekkpaaGreatDoor.AX
open Go AXP
def lsNu1 : LS where
  keep := [(0, .as), (1, .as), (4, .as), (5, .as), (6, .as), (7, .as)]
  left := [(0, .as), (1, .as), (4, .as), (5, .as), (6, .as)]
  sum := fun vs bs K => match vs, bs with
    | [.str b, .int .i64 i, .ptr 0 0, .int .i64 k, .int .i64 n, .int .i64 j], [.box [.int .i64 z0, .int .i64 z1]] => Rq (i = 0 ∧ n = 0 ∧ j = 0 ∧ 0 ≤ k ∧ k ≤ 6 ∧ 1 + k ≤ b.size) (K (.exit 0) [.str b, .int .i64 0, .ptr 0 0, .int .i64 k, .int .i64 (v256 (kb (b.extract 1 (1 + k.toNat))))] [.box [.int .i64 z0, .int .i64 z1]])
    | _, _ => False
def conNu1 : Con := conP [.str, .int] fun (b : ByteArray) (i : Int) => { pre := some (i = 0), res := .agg [.int .i64 (tkN b), .int .i64 (tkEnd b)] }
noncomputable def cxTk1 : Cx := cxT (tabLook [(69, conNu1)])
def conTkN1 : Con := conP [.str] fun (b : ByteArray) => { res := .agg [.int .i64 (tkN b), .str ⟨#[]⟩, .row .str [], .str (tkR b), .int .i64 (tkE b)] }
def conTkT1 : Con := conP [.str] fun (b : ByteArray) => { res := .agg [.int .i64 0, .str (ttS b), .row .str [], .str (ttR b), .int .i64 (ttE b)] }
end Go.Proofs.YtnhipiedjekkpaaGreatDoor.AX
end
section
namespace Go.Proofs.YtnhipiedjekkpaaGreatDoor.AX
open Go AXP
set_option maxRecDepth 100000
theorem vcNu1B (b : ByteArray) (i k n j z0 z1 : Int) (K : Ex → List AV → List Blk → Prop) : (bodyA cx0 (LL Tryz.f69 [lsNu1]) Tryz.f69.ntmps (loopAt Tryz.f69 0).1 (loopAt Tryz.f69 0).2 lsNu1.keep lsNu1.left K [.str b, .int .i64 i, .ptr 0 0, .int .i64 k, .int .i64 n, .int .i64 j] [.box [.int .i64 z0, .int .i64 z1]]) = (
Br (decide (j < k))
 (Rq
 ((0 : Int) ≤ IntKind.i64.wrap (IntKind.i64.wrap (i + (1 : Int)) + j) ∧
 IntKind.i64.wrap (IntKind.i64.wrap (i + (1 : Int)) + j) < (↑b.size : Int))
 (K Ex.norm
 [AV.str b, AV.int IntKind.i64 i, AV.ptr (0 : Nat) (0 : Nat), AV.int IntKind.i64 k,
 AV.int IntKind.i64
 (IntKind.i64.wrap
 (IntKind.i64.wrap (n * (256 : Int)) +
 IntKind.i64.wrap
 (↑(b.get! (IntKind.i64.wrap (IntKind.i64.wrap (i + (1 : Int)) + j)).toNat).toNat : Int))),
 AV.int IntKind.i64 (IntKind.i64.wrap (j + (1 : Int)))]
 [Blk.box [AV.int IntKind.i64 z0, AV.int IntKind.i64 z1]]))
 (K (Ex.exit (0 : Nat))
 [AV.str b, AV.int IntKind.i64 i, AV.ptr (0 : Nat) (0 : Nat), AV.int IntKind.i64 k, AV.int IntKind.i64 n]
 [Blk.box [AV.int IntKind.i64 z0, AV.int IntKind.i64 z1]])) := by kernel_rfl
theorem vcNu1F (b : ByteArray) (Q : List AV → List Blk → List Blk → Prop) : (funA cx0 (LL Tryz.f69 [lsNu1]) Tryz.f69 [.str b, .int .i64 0] [] [] Q) = (
Br (decide ((0 : Int) ≥ (↑b.size : Int)))
 (Gv (b.size ≤ maxSl) (Q [AV.agg [AV.int IntKind.i64 (0 : Int), AV.int IntKind.i64 (-1 : Int)]] [] []))
 (Rq ((0 : Int) ≤ (0 : Int) ∧ (0 : Int) < (↑b.size : Int))
 (Gv (b.size ≤ maxSl)
 (Br (decide ((↑(b.get! (Int.toNat (0 : Int))).toNat : Int) > (6 : Int)))
 (Q [AV.agg [AV.int IntKind.i64 (0 : Int), AV.int IntKind.i64 (-1 : Int)]] [] [])
 (Rq ((0 : Int) ≤ (0 : Int) ∧ (0 : Int) < (↑b.size : Int))
 (Br
 (decide
 (IntKind.i64.wrap (↑(b.get! (Int.toNat (0 : Int))).toNat : Int) >
 IntKind.i64.wrap (IntKind.i64.wrap ((↑b.size : Int) - (0 : Int)) - (1 : Int))))
 (Gv (b.size ≤ maxSl) (Q [AV.agg [AV.int IntKind.i64 (0 : Int), AV.int IntKind.i64 (-1 : Int)]] [] []))
 (Br (decide (IntKind.i64.wrap (↑(b.get! (Int.toNat (0 : Int))).toNat : Int) > (0 : Int)))
 (Rq
 ((0 : Int) ≤ IntKind.i64.wrap ((0 : Int) + (1 : Int)) ∧
 IntKind.i64.wrap ((0 : Int) + (1 : Int)) < (↑b.size : Int))
 (Gv (b.size ≤ maxSl)
 (Br ((↑(b.get! (IntKind.i64.wrap ((0 : Int) + (1 : Int))).toNat).toNat : Int) == (0 : Int))
 (Q [AV.agg [AV.int IntKind.i64 (0 : Int), AV.int IntKind.i64 (-1 : Int)]] [] [])
 (Rq
 ((0 : Int) = (0 : Int) ∧
 (0 : Int) = (0 : Int) ∧
 (0 : Int) = (0 : Int) ∧
 (0 : Int) ≤ IntKind.i64.wrap (↑(b.get! (Int.toNat (0 : Int))).toNat : Int) ∧
 IntKind.i64.wrap (↑(b.get! (Int.toNat (0 : Int))).toNat : Int) ≤ (6 : Int) ∧
 (1 : Int) + IntKind.i64.wrap (↑(b.get! (Int.toNat (0 : Int))).toNat : Int) ≤
 (↑b.size : Int))
 (Br
 (decide
 ((↑(v256
 (kb
 (b.extract (1 : Nat)
 ((1 : Nat) +
 (IntKind.i64.wrap (↑(b.get! (Int.toNat (0 : Int))).toNat : Int)).toNat)))) :
 Int) >
 (1099511627776 : Int)))
 (Q [AV.agg [AV.int IntKind.i64 (0 : Int), AV.int IntKind.i64 (-1 : Int)]] [] [])
 (Q
 [AV.agg
 [AV.int IntKind.i64
 (↑(v256
 (kb
 (b.extract (1 : Nat)
 ((1 : Nat) +
 (IntKind.i64.wrap
 (↑(b.get! (Int.toNat (0 : Int))).toNat : Int)).toNat)))) :
 Int),
 AV.int IntKind.i64
 (IntKind.i64.wrap
 (IntKind.i64.wrap ((0 : Int) + (1 : Int)) +
 IntKind.i64.wrap (↑(b.get! (Int.toNat (0 : Int))).toNat : Int)))]]
 [] []))))))
 (Gv (b.size ≤ maxSl)
 (Rq
 ((0 : Int) = (0 : Int) ∧
 (0 : Int) = (0 : Int) ∧
 (0 : Int) = (0 : Int) ∧
 (0 : Int) ≤ IntKind.i64.wrap (↑(b.get! (Int.toNat (0 : Int))).toNat : Int) ∧
 IntKind.i64.wrap (↑(b.get! (Int.toNat (0 : Int))).toNat : Int) ≤ (6 : Int) ∧
 (1 : Int) + IntKind.i64.wrap (↑(b.get! (Int.toNat (0 : Int))).toNat : Int) ≤
 (↑b.size : Int))
 (Br
 (decide
 ((↑(v256
 (kb
 (b.extract (1 : Nat)
 ((1 : Nat) +
 (IntKind.i64.wrap (↑(b.get! (Int.toNat (0 : Int))).toNat : Int)).toNat)))) :
 Int) >
 (1099511627776 : Int)))
 (Q [AV.agg [AV.int IntKind.i64 (0 : Int), AV.int IntKind.i64 (-1 : Int)]] [] [])
 (Q
 [AV.agg
 [AV.int IntKind.i64
 (↑(v256
 (kb
 (b.extract (1 : Nat)
 ((1 : Nat) +
 (IntKind.i64.wrap (↑(b.get! (Int.toNat (0 : Int))).toNat : Int)).toNat)))) :
 Int),
 AV.int IntKind.i64
 (IntKind.i64.wrap
 (IntKind.i64.wrap ((0 : Int) + (1 : Int)) +
 IntKind.i64.wrap (↑(b.get! (Int.toNat (0 : Int))).toNat : Int)))]]
 [] []))))))))))) := by kernel_rfl
theorem vcTkN1F (b : ByteArray) (Q : List AV → List Blk → List Blk → Prop) : (funA cxTk1 (LL Tryz.f34 []) Tryz.f34 [.str b] [] [.as, .as, .row .str, .as, .as] Q) = (
Rq ((0 : Int) = (0 : Int))
 (Br (decide (tkEnd b < (0 : Int)))
 (Q
 [AV.agg
 [AV.int IntKind.i64 (0 : Int), AV.str (ByteArray.mk (Array.mk [])), AV.row Ty.str [],
 AV.str (ByteArray.mk (Array.mk [])), AV.int IntKind.i64 (4 : Int)]]
 [] [])
 (Rq ((0 : Int) ≤ tkEnd b ∧ tkEnd b ≤ (↑b.size : Int) ∧ (↑b.size : Int) ≤ (↑b.size : Int))
 (Q
 [AV.agg
 [AV.int IntKind.i64 (tkN b), AV.str (ByteArray.mk (Array.mk [])), AV.row Ty.str [],
 AV.str (b.extract (tkEnd b).toNat (↑b.size : Int).toNat), AV.int IntKind.i64 (0 : Int)]]
 [] [])))) := by kernel_rfl
theorem vcTkT1F (b : ByteArray) (Q : List AV → List Blk → List Blk → Prop) : (funA cxTk1 (LL Tryz.f70 []) Tryz.f70 [.str b] [] [.as, .as, .row .str, .as, .as] Q) = (
Rq ((0 : Int) = (0 : Int))
 (Br (decide (tkEnd b < (0 : Int)))
 (Q
 [AV.agg
 [AV.int IntKind.i64 (0 : Int), AV.str (ByteArray.mk (Array.mk [])), AV.row Ty.str [],
 AV.str (ByteArray.mk (Array.mk [])), AV.int IntKind.i64 (4 : Int)]]
 [] [])
 (Br (decide (tkN b > (65536 : Int)))
 (Q
 [AV.agg
 [AV.int IntKind.i64 (0 : Int), AV.str (ByteArray.mk (Array.mk [])), AV.row Ty.str [],
 AV.str (ByteArray.mk (Array.mk [])), AV.int IntKind.i64 (4 : Int)]]
 [] [])
 (Gv (b.size ≤ maxSl)
 (Br (decide (tkN b > IntKind.i64.wrap ((↑b.size : Int) - tkEnd b)))
 (Q
 [AV.agg
 [AV.int IntKind.i64 (0 : Int), AV.str (ByteArray.mk (Array.mk [])), AV.row Ty.str [],
 AV.str (ByteArray.mk (Array.mk [])), AV.int IntKind.i64 (4 : Int)]]
 [] [])
 (Rq
 ((0 : Int) ≤ tkEnd b ∧
 tkEnd b ≤ IntKind.i64.wrap (tkEnd b + tkN b) ∧ IntKind.i64.wrap (tkEnd b + tkN b) ≤ (↑b.size : Int))
 (Rq
 ((0 : Int) ≤ IntKind.i64.wrap (tkEnd b + tkN b) ∧
 IntKind.i64.wrap (tkEnd b + tkN b) ≤ (↑b.size : Int) ∧ (↑b.size : Int) ≤ (↑b.size : Int))
 (Q
 [AV.agg
 [AV.int IntKind.i64 (0 : Int),
 AV.str (b.extract (tkEnd b).toNat (IntKind.i64.wrap (tkEnd b + tkN b)).toNat), AV.row Ty.str [],
 AV.str (b.extract (IntKind.i64.wrap (tkEnd b + tkN b)).toNat (↑b.size : Int).toNat),
 AV.int IntKind.i64 (0 : Int)]]
 [] [])))))))) := by kernel_rfl
end Go.Proofs.YtnhipiedjekkpaaGreatDoor.AX
end
section
namespace Go.Proofs.YtnhipiedjekkpaaGreatDoor.AXP
open Go Go.Proofs.YtnhipiedjekkpaaGreatDoor.AX
theorem kb_ext1 (b : ByteArray) (k : Nat) : kb (b.extract 1 (1 + k)) = ((kb b).drop 1).take k := by
  rw [kb_ext, Nat.add_comm, List.drop_take, Nat.add_sub_cancel]
theorem dOK_ext {b : ByteArray} {k : Nat} (h0 : 0 < k) (h : 1 + k ≤ b.size) : dOK (b.extract 1 (1 + k)) = !(((b.get! 1).toNat : Int) == 0) := by
  have e := kb_get (s := b) (i := 1) (by omega)
  have : (kb (b.extract 1 (1 + k))).head? = some (b.get! 1) := by
    rw [kb_ext1, List.head?_eq_getElem?, List.getElem?_take, if_pos h0, List.getElem?_drop]
    exact e
  unfold dOK
  rw [this]
  generalize b.get! 1 = x
  by_cases hx : x = 0
  · subst hx; rfl
  · have h2 : ¬ x.toNat = 0 := fun e => hx (by rw [← UInt8.ofNat_toNat (x := x), e]; rfl)
    simp [hx, h2]
end Go.Proofs.YtnhipiedjekkpaaGreatDoor.AXP
namespace Go.Proofs.YtnhipiedjekkpaaGreatDoor.AX
open Go AXP
set_option maxRecDepth 100000
theorem nu1_sum : SumOK cx0 (LL Tryz.f69 [lsNu1]) Tryz.f69.ntmps (loopAt Tryz.f69 0).1 (loopAt Tryz.f69 0).2 lsNu1 := by
  intro vs bs K hs
  unfold lsNu1 at hs
  simp only at hs
  split at hs
  case h_2 => exact hs.elim
  rename_i b i k n j z0 z1
  obtain ⟨⟨rfl, rfl, rfl, h0, h6, hsz⟩, h⟩ := hs
  obtain ⟨k, rfl⟩ := Int.eq_ofNat_of_zero_le h0
  rw [Int.toNat_natCast, kb_ext1] at h
  refine sum_rec (σ := Nat) (fun j => [.str b, .int .i64 0, .ptr 0 0, .int .i64 (k : Nat), .int .i64 (v256 (((kb b).drop 1).take j)), .int .i64 (j : Nat)]) (fun _ => [.box [.int .i64 z0, .int .i64 z1]]) (fun j => j ≤ k) (fun j => k - j) ?_ 0 (Nat.zero_le _)
  intro j hj R hR
  refine Eq.mpr (vcNu1B b 0 k _ j z0 z1 _) ⟨fun q => ?_, fun q => ?_⟩
  · have hlt : j < k := by have := of_decide_eq_true q; omega
    have e0 : IntKind.i64.wrap (IntKind.i64.wrap ((0 : Int) + 1) + (j : Int)) = ((1 + j : Nat) : Int) := by
      rw [wrap_id' (i := (0 : Int) + 1) (by omega) (by omega), wrap_id' (by omega) (by omega)]; omega
    have hb : (b.get! (1 + j)).toNat < 256 := UInt8.toNat_lt _
    have hl : (((kb b).drop 1).take j).length = j := by rw [List.length_take, List.length_drop, kb_size]; omega
    have hv := v256_lt _ (((kb b).drop 1).take j) (Nat.le_refl _)
    rw [hl] at hv
    have hv5 : v256 (((kb b).drop 1).take j) < 1099511627776 := Nat.lt_of_lt_of_le hv (Nat.le_trans (Nat.pow_le_pow_right (by decide) (show j ≤ 5 by omega)) (by decide))
    have e4 : ((kb b).drop 1).take (j + 1) = ((kb b).drop 1).take j ++ [b.get! (1 + j)] := by
      rw [List.take_add_one, List.getElem?_drop, kb_get (by omega)]; rfl
    rw [e0, Int.toNat_natCast]
    have ew : IntKind.i64.wrap (IntKind.i64.wrap ((v256 (((kb b).drop 1).take j) : Int) * 256) + IntKind.i64.wrap ((b.get! (1 + j)).toNat : Int)) = ((v256 (((kb b).drop 1).take j) * 256 + (b.get! (1 + j)).toNat : Nat) : Int) := by
      rw [wrap_id' (i := (v256 (((kb b).drop 1).take j) : Int) * 256) (by omega) (by omega), wrap_id' (i := ((b.get! (1 + j)).toNat : Int)) (by omega) (by omega), wrap_id' (by omega) (by omega)]; omega
    have ej : IntKind.i64.wrap ((j : Int) + 1) = ((j + 1 : Nat) : Int) := by rw [wrap_id'] <;> omega
    rw [ew, ej]
    have := hR (j + 1) hlt (by omega)
    rw [e4, v256_snoc] at this
    exact Rq.mk ⟨by omega, by omega⟩ this
  · have : j = k := by have := of_decide_eq_false q; omega
    subst this
    exact h
theorem nu1_holds : Holds 69 conNu1 := conP_holds fun b i => by
  rcases (show ∃ w : ByteArray, w = b from ⟨_, rfl⟩) with ⟨b, rfl⟩
  intro F I w vals hH hv hpre
  obtain rfl : i = (0 : Int) := hpre _ rfl
  refine fun_meets1 tok0 [] lsNu1 (by kernel_rfl) (by kernel_rfl) nu1_sum (fun _ => Eq.mpr (vcNu1F b _) ?_) F I w vals hH hv hpre
  have no : takeN (kb b) = none → [AV.agg [AV.int IntKind.i64 0, AV.int IntKind.i64 (-1)]] = compsOf (.agg [.int .i64 (tkN b), .int .i64 (tkEnd b)]) := fun h => by
    show _ = [AV.agg [AV.int .i64 (tkN b), AV.int .i64 (tkEnd b)]]
    unfold tkN tkEnd; rw [h]
  refine ⟨fun h => ⟨fun _ => qfin rfl (no (tk_nil (by have := of_decide_eq_true h; omega))) rfl rfl⟩, fun h => ?_⟩
  have h0 : 0 < b.size := by have := of_decide_eq_false h; omega
  have hk : (b.get! 0).toNat < 256 := UInt8.toNat_lt _
  have tk := tk_eq h0
  refine Rq.mk ⟨by omega, by omega⟩ ⟨fun hm => ?_⟩
  have e1 : IntKind.i64.wrap (↑(b.get! (Int.toNat (0 : Int))).toNat : Int) = ((b.get! 0).toNat : Int) := wrap_id' (by show (_ : Int) ≤ ((b.get! 0).toNat : Int); omega) (by show ((b.get! 0).toNat : Int) < _; omega)
  have e2 : IntKind.i64.wrap (IntKind.i64.wrap ((b.size : Int) - 0) - 1) = (b.size : Int) - 1 := by
    unfold maxSl at hm
    rw [wrap_id' (i := (b.size : Int) - 0) (by omega) (by omega), wrap_id' (by omega) (by omega)]; omega
  have e3 : IntKind.i64.wrap ((0 : Int) + 1) = 1 := by decide
  rw [e1, e2, e3, Int.toNat_natCast]
  have e4 : IntKind.i64.wrap ((1 : Int) + ((b.get! 0).toNat : Int)) = ((1 + (b.get! 0).toNat : Nat) : Int) := by rw [wrap_id' (by omega) (by omega)]; omega
  rw [e4]
  refine ⟨fun h1 => qfin rfl (no ?_) rfl rfl, fun h1 => Rq.mk ⟨by omega, by omega⟩ ⟨fun h2 => ⟨fun _ => qfin rfl (no ?_) rfl rfl⟩, fun h2 => ?_⟩⟩
  · have := of_decide_eq_true h1
    rw [tk, if_pos (by have : ((b.get! 0).toNat : Int) > 6 := this; omega)]
  · have h1 : ¬ ((b.get! 0).toNat : Int) > 6 := of_decide_eq_false h1
    have h2 := of_decide_eq_true h2
    rw [tk, if_neg (by omega), if_pos (by omega)]
  have h1 : ¬ ((b.get! 0).toNat : Int) > 6 := of_decide_eq_false h1
  have h2 := of_decide_eq_false h2
  rw [if_neg (by omega), if_neg (by omega)] at tk
  have fin : dOK (b.extract 1 (1 + (b.get! 0).toNat)) = true → Br (decide (((v256 (kb (b.extract 1 (1 + (b.get! 0).toNat))) : Nat) : Int) > 1099511627776)) (FinQ { pre := some ((0 : Int) = 0), res := .agg [.int .i64 (tkN b), .int .i64 (tkEnd b)] } [AV.agg [AV.int IntKind.i64 0, AV.int IntKind.i64 (-1)]] [] []) (FinQ { pre := some ((0 : Int) = 0), res := .agg [.int .i64 (tkN b), .int .i64 (tkEnd b)] } [AV.agg [AV.int IntKind.i64 (v256 (kb (b.extract 1 (1 + (b.get! 0).toNat))) : Nat), AV.int IntKind.i64 ((1 + (b.get! 0).toNat : Nat) : Int)]] [] []) := fun hd => by
    rw [if_neg (by rw [hd]; decide)] at tk
    refine ⟨fun h4 => qfin rfl (no ?_) rfl rfl, fun h4 => qfin rfl ?_ rfl rfl⟩
    · have h4 := of_decide_eq_true h4
      rw [tk, if_pos (by omega)]
    · have h4 := of_decide_eq_false h4
      rw [if_neg (by omega)] at tk
      show _ = [AV.agg [AV.int .i64 (tkN b), AV.int .i64 (tkEnd b)]]
      unfold tkN tkEnd; rw [tk]
      have hx : b.size - (kb (b.extract (1 + (b.get! 0).toNat) b.size)).length = 1 + (b.get! 0).toNat := by
        rw [kb_size, ByteArray.size_extract]; omega
      simp only [hx]
  refine ⟨fun h3 => ?_, fun h3 => ⟨fun _ => ?_⟩⟩
  · have h3 : ((b.get! 0).toNat : Int) > 0 := of_decide_eq_true h3
    have hd := dOK_ext (b := b) (k := (b.get! 0).toNat) (by omega) (by omega)
    refine Rq.mk ⟨by omega, by omega⟩ ⟨fun _ => ⟨fun h4 => qfin rfl (no ?_) rfl rfl, fun h4 => Rq.mk ⟨rfl, rfl, rfl, by omega, by omega, by omega⟩ (fin ?_)⟩⟩
    · have h4 : (((b.get! 1).toNat : Int) == 0) = true := h4
      rw [tk, if_pos (by rw [hd, h4]; rfl)]
    · have h4 : (((b.get! 1).toNat : Int) == 0) = false := h4
      rw [hd, h4]; rfl
  · have h3 : ¬ ((b.get! 0).toNat : Int) > 0 := of_decide_eq_false h3
    exact Rq.mk ⟨rfl, rfl, rfl, by omega, by omega, by omega⟩ (fin (dOK_nil (by rw [ByteArray.size_extract]; omega)))
theorem tkN1_holds : Holds 34 conTkN1 := conP_holds fun b => by
  rcases (show ∃ w : ByteArray, w = b from ⟨_, rfl⟩) with ⟨b, rfl⟩
  refine fun_meets0 (AllH.tok (.cons nu1_holds (by kernel_rfl) .nil)) [.as, .as, .row .str, .as, .as] (by kernel_rfl) (by kernel_rfl) fun _ => Eq.mpr (vcTkN1F b _) ?_
  cases ht : takeN (kb b) with
  | none =>
    have e1 : tkEnd b = -1 := by unfold tkEnd; rw [ht]
    rw [e1]
    refine Rq.mk rfl ⟨fun _ => qfin rfl ?_ rfl rfl, fun h => absurd h (by decide)⟩
    show _ = [AV.agg [AV.int .i64 (tkN b), _, _, AV.str (tkR b), AV.int .i64 (tkE b)]]
    unfold tkN tkR tkE; rw [ht]
  | some p =>
    obtain ⟨n, r⟩ := p
    obtain ⟨hb, hn⟩ := take_num_inv ht
    have hl := congrArg List.length hb
    rw [kb_size, List.length_append] at hl
    have e1 : tkEnd b = ((numL n).length : Int) := by unfold tkEnd; rw [ht]; show ((b.size - r.length : Nat) : Int) = _; omega
    rw [e1]
    refine Rq.mk rfl ⟨fun h => absurd (of_decide_eq_true h) (by omega), fun _ => Rq.mk ⟨by omega, by omega, by omega⟩ (qfin rfl ?_ rfl rfl)⟩
    have hx : b.extract (numL n).length b.size = bk r := by
      apply kb_inj
      rw [kb_ext, List.take_of_length_le (by rw [kb_size]; exact Nat.le_refl _), hb, List.drop_left, kb_bk]
    rw [Int.toNat_natCast, Int.toNat_natCast, hx]
    show _ = [AV.agg [AV.int .i64 (tkN b), _, _, AV.str (tkR b), AV.int .i64 (tkE b)]]
    unfold tkN tkR tkE; rw [ht]
theorem tkT1_holds : Holds 70 conTkT1 := conP_holds fun b => by
  rcases (show ∃ w : ByteArray, w = b from ⟨_, rfl⟩) with ⟨b, rfl⟩
  refine fun_meets0 (AllH.tok (.cons nu1_holds (by kernel_rfl) .nil)) [.as, .as, .row .str, .as, .as] (by kernel_rfl) (by kernel_rfl) fun _ => Eq.mpr (vcTkT1F b _) ?_
  have no : takeT (kb b) = none → [AV.agg [AV.int IntKind.i64 0, AV.str (ByteArray.mk (Array.mk [])), AV.row Ty.str [], AV.str (ByteArray.mk (Array.mk [])), AV.int IntKind.i64 4]] = compsOf (.agg [.int .i64 0, .str (ttS b), .row .str [], .str (ttR b), .int .i64 (ttE b)]) := fun h => by
    show _ = [AV.agg [_, AV.str (ttS b), _, AV.str (ttR b), AV.int .i64 (ttE b)]]
    unfold ttS ttR ttE; rw [h]
  cases ht : takeN (kb b) with
  | none =>
    have e1 : tkEnd b = -1 := by unfold tkEnd; rw [ht]
    rw [e1]
    refine Rq.mk rfl ⟨fun _ => qfin rfl (no ?_) rfl rfl, fun h => absurd h (by decide)⟩
    unfold takeT; rw [ht]
  | some p =>
    obtain ⟨n, r⟩ := p
    obtain ⟨hb, hn⟩ := take_num_inv ht
    have hl := congrArg List.length hb
    rw [kb_size, List.length_append] at hl
    have hnl := numL_le hn
    have e1 : tkEnd b = ((numL n).length : Int) := by unfold tkEnd; rw [ht]; show ((b.size - r.length : Nat) : Int) = _; omega
    have e2 : tkN b = (n : Int) := by unfold tkN; rw [ht]
    have hT : takeT (kb b) = if n > 65536 ∨ n > r.length then none else some (r.take n, r.drop n) := by unfold takeT; rw [ht]
    rw [e1, e2]
    refine Rq.mk rfl ⟨fun h => absurd (of_decide_eq_true h) (by omega), fun _ => ⟨fun h => qfin rfl (no ?_) rfl rfl, fun h => ⟨fun hm => ?_⟩⟩⟩
    · have h := of_decide_eq_true h
      rw [hT, if_pos (.inl (by omega))]
    have h := of_decide_eq_false h
    have w1 : IntKind.i64.wrap ((b.size : Int) - ((numL n).length : Int)) = (r.length : Int) := by unfold maxSl at hm; rw [wrap_id'] <;> omega
    have w2 : IntKind.i64.wrap (((numL n).length : Int) + (n : Int)) = (((numL n).length + n : Nat) : Int) := by rw [wrap_id'] <;> omega
    rw [w1, w2]
    refine ⟨fun h1 => qfin rfl (no ?_) rfl rfl, fun h1 => ?_⟩
    · have h1 := of_decide_eq_true h1
      rw [hT, if_pos (.inr (by omega))]
    have h1 := of_decide_eq_false h1
    rw [if_neg (by omega)] at hT
    refine Rq.mk ⟨by omega, by omega, by omega⟩ (Rq.mk ⟨by omega, by omega, by omega⟩ (qfin rfl ?_ rfl rfl))
    have a1 : b.extract (numL n).length ((numL n).length + n) = bk (r.take n) := by
      apply kb_inj
      rw [kb_ext, hb, List.take_length_add_append, List.drop_left, kb_bk]
    have a2 : b.extract ((numL n).length + n) b.size = bk (r.drop n) := by
      apply kb_inj
      rw [kb_ext, List.take_of_length_le (by rw [kb_size]; exact Nat.le_refl _), hb, List.drop_length_add_append, kb_bk]
    rw [Int.toNat_natCast, Int.toNat_natCast, Int.toNat_natCast, a1, a2]
    show _ = [AV.agg [_, AV.str (ttS b), _, AV.str (ttR b), AV.int .i64 (ttE b)]]
    unfold ttS ttR ttE; rw [hT]
end Go.Proofs.YtnhipiedjekkpaaGreatDoor.AX
end
section
namespace Go.Proofs.YtnhipiedjekkpaaGreatDoor.AXP
open Go Go.Proofs.YtnhipiedjekkpaaGreatDoor.AX
def mR3 (d : Int) (b : ByteArray) : List Nd × ByteArray × Bool := match pNds (d + 1).toNat (kb b) with
  | some (l, r) => (l, bk r, false)
  | none => ([], ⟨#[]⟩, true)
def aQ : Nat → ByteArray → List At × ByteArray × Bool
  | 0, b => ([], b, true)
  | c + 1, b => if ttE b ≠ 0 ∨ ttE (ttR b) ≠ 0 then ([], b, false) else (⟨ttS b, ttS (ttR b)⟩ :: (aQ c (ttR (ttR b))).1, (aQ c (ttR (ttR b))).2.1, (aQ c (ttR (ttR b))).2.2)
def zN8 : Nd := ⟨0, 0, ⟨#[]⟩, [], ⟨#[]⟩, []⟩
def oT (d : Int) (b : ByteArray) : Nd × ByteArray × Bool :=
  if tkE b ≠ 0 ∨ tkN b > 3 then (zN8, ⟨#[]⟩, true)
  else if (tkN b == 2 || tkN b == 3) = true then (⟨tkN b, 0, ⟨#[]⟩, [], ttS (tkR b), []⟩, ttR (tkR b), ttE (tkR b) != 0)
  else if tkE (tkR b) ≠ 0 ∨ ttE (tkR (tkR b)) ≠ 0 ∨ tkE (ttR (tkR (tkR b))) ≠ 0 ∨ tkN (tkR b) > 2 ∨ tkN (ttR (tkR (tkR b))) > 12 then (zN8, ⟨#[]⟩, true)
  else if (aQ (tkN (ttR (tkR (tkR b)))).toNat (tkR (ttR (tkR (tkR b))))).2.2 = true then
    (⟨tkN b, tkN (tkR b), ttS (tkR (tkR b)), (aQ (tkN (ttR (tkR (tkR b)))).toNat (tkR (ttR (tkR (tkR b))))).1, ⟨#[]⟩, (mR3 (d - 1) (aQ (tkN (ttR (tkR (tkR b)))).toNat (tkR (ttR (tkR (tkR b))))).2.1).1⟩,
      (mR3 (d - 1) (aQ (tkN (ttR (tkR (tkR b)))).toNat (tkR (ttR (tkR (tkR b))))).2.1).2.1, (mR3 (d - 1) (aQ (tkN (ttR (tkR (tkR b)))).toNat (tkR (ttR (tkR (tkR b))))).2.1).2.2)
  else (zN8, ⟨#[]⟩, true)
def mQ (d : Int) : Nat → ByteArray → List Nd × ByteArray × Bool
  | 0, b => ([], b, true)
  | c + 1, b => if (oT d b).2.2 = true then ([], b, false) else ((oT d b).1 :: (mQ d c (oT d b).2.1).1, (mQ d c (oT d b).2.1).2.1, (mQ d c (oT d b).2.1).2.2)
def r8OK (b : ByteArray) : Bool := !(mR3 40 b).2.2 && eqS (mR3 40 b).2.1 ⟨#[]⟩ && (checkS (mR3 40 b).1 == 0)
def r8L (b : ByteArray) : List Nd := if r8OK b = true then (mR3 40 b).1 else []
def r8E (b : ByteArray) : Int := if r8OK b = true then 0 else 4
end Go.Proofs.YtnhipiedjekkpaaGreatDoor.AXP
namespace Go.Proofs.YtnhipiedjekkpaaGreatDoor.AX
open Go AXP
noncomputable def conMany (k : Nat) : Con := conP [.str, .int] fun (b : ByteArray) (d : Int) => { pre := some ((d + 2).toNat < k ∧ -1 ≤ d ∧ d ≤ 40), res := .agg [.int .i64 0, .int .i64 0, .str ⟨#[]⟩, .row .attr [], .str ⟨#[]⟩, .row .node [], .row .node (mR3 d b).1, .str (mR3 d b).2.1, .bool (mR3 d b).2.2] }
noncomputable def conOne (k : Nat) : Con := conP [.str, .int] fun (b : ByteArray) (d : Int) => { pre := some ((d + 1).toNat < k ∧ 0 ≤ d ∧ d ≤ 40), res := .agg [.int .i64 (oT d b).1.kind, .int .i64 (oT d b).1.space, .str (oT d b).1.name, .row .attr (oT d b).1.attrs, .str (oT d b).1.text, .row .node (oT d b).1.kids, .row .node [], .str (oT d b).2.1, .bool (oT d b).2.2] }
noncomputable def cxOne8 (k : Nat) : Cx := cxT (tabLook [(34, conTkN1), (70, conTkT1), (92, conMany k)])
noncomputable def lsOne8 : LS where
  keep := [(1, .as), (4, .as), (6, .as), (10, .as), (11, .as), (12, .as)]
  left := [(4, .as), (6, .as), (1, .as), (11, .as)]
  sum := fun vs bs K => match vs, bs with
    | [.int .i64 d, .ptr 0 0, .ptr 1 0, .ptr 2 0, .str b, .int .i64 i], [.box [.int .i64 z0, .int .i64 z1, .str z2, .nil, .str z4, .nil, .nil, .str z7, .bool z8], .box [.int .i64 o0, .int .i64 o1, .str o2, .nil, .str o4, .nil, .nil, .str o7, .bool o8], .box [.int .i64 c, .str cs, .row .str cl, .str cr, .int .i64 ce]] => Rq (i = 0 ∧ 0 ≤ c ∧ c ≤ 12)
      (Br (aQ c.toNat b).2.2
        (Br ((aQ c.toNat b).1.length == 0)
          (K (.exit 0) [.ptr 0 0, .ptr 1 0, .int .i64 d, .str (aQ c.toNat b).2.1] [.box [.int .i64 z0, .int .i64 z1, .str z2, .nil, .str z4, .nil, .nil, .str z7, .bool z8], .box [.int .i64 o0, .int .i64 o1, .str o2, .nil, .str o4, .nil, .nil, .str o7, .bool o8]])
          (K (.exit 0) [.ptr 0 0, .ptr 1 0, .int .i64 d, .str (aQ c.toNat b).2.1] [.box [.int .i64 z0, .int .i64 z1, .str z2, .nil, .str z4, .nil, .nil, .str z7, .bool z8], .box [.int .i64 o0, .int .i64 o1, .str o2, .own 2 0, .str o4, .nil, .nil, .str o7, .bool o8], .rowb 0 .attr (aQ c.toNat b).1]))
        (Br ((aQ c.toNat b).1.length == 0)
          (K .ret [.ptr 0 0, .ptr 1 0, .int .i64 d, .str (aQ c.toNat b).2.1] [.box [.int .i64 0, .int .i64 0, .str ⟨#[]⟩, .nil, .str ⟨#[]⟩, .nil, .nil, .str ⟨#[]⟩, .bool true], .box [.int .i64 o0, .int .i64 o1, .str o2, .nil, .str o4, .nil, .nil, .str o7, .bool o8]])
          (K .ret [.ptr 0 0, .ptr 1 0, .int .i64 d, .str (aQ c.toNat b).2.1] [.box [.int .i64 0, .int .i64 0, .str ⟨#[]⟩, .nil, .str ⟨#[]⟩, .nil, .nil, .str ⟨#[]⟩, .bool true], .box [.int .i64 o0, .int .i64 o1, .str o2, .own 2 0, .str o4, .nil, .nil, .str o7, .bool o8], .rowb 0 .attr (aQ c.toNat b).1])))
    | _, _ => False
noncomputable def cxMany (k : Nat) : Cx := cxT (tabLook [(34, conTkN1), (112, conOne k)])
noncomputable def lsMany (k : Nat) : LS where
  keep := [(1, .as), (4, .as), (5, .as), (6, .as), (7, .as)]
  left := [(4, .as), (6, .as)]
  sum := fun vs bs K => match vs, bs with
    | [.int .i64 d, .ptr 0 0, .ptr 1 0, .ptr 2 0, .int .i64 i], [.box [.int .i64 z0, .int .i64 z1, .str z2, .nil, .str z4, .nil, .nil, .str z7, .bool z8], .box [.int .i64 c, .str cs, .row .str cl, .str cr, .int .i64 ce], .box [.int .i64 o0, .int .i64 o1, .str o2, .nil, .str o4, .nil, .nil, .str b, .bool o8]] => Rq (i = 0 ∧ 0 ≤ c ∧ c ≤ 300 ∧ (d + 1).toNat < k ∧ 0 ≤ d ∧ d ≤ 40)
      (Br (mQ d c.toNat b).2.2
        (Br ((mQ d c.toNat b).1.length == 0)
          (K (.exit 0) [.ptr 0 0, .ptr 1 0] [.box [.int .i64 z0, .int .i64 z1, .str z2, .nil, .str z4, .nil, .nil, .str z7, .bool z8], .box [.int .i64 o0, .int .i64 o1, .str o2, .nil, .str o4, .nil, .nil, .str (mQ d c.toNat b).2.1, .bool o8]])
          (K (.exit 0) [.ptr 0 0, .ptr 1 0] [.box [.int .i64 z0, .int .i64 z1, .str z2, .nil, .str z4, .nil, .nil, .str z7, .bool z8], .box [.int .i64 o0, .int .i64 o1, .str o2, .nil, .str o4, .nil, .own 2 0, .str (mQ d c.toNat b).2.1, .bool o8], .rowb 0 .node (mQ d c.toNat b).1]))
        (Br ((mQ d c.toNat b).1.length == 0)
          (K .ret [.ptr 0 0, .ptr 1 0] [.box [.int .i64 0, .int .i64 0, .str ⟨#[]⟩, .nil, .str ⟨#[]⟩, .nil, .nil, .str ⟨#[]⟩, .bool true], .box [.int .i64 o0, .int .i64 o1, .str o2, .nil, .str o4, .nil, .nil, .str (mQ d c.toNat b).2.1, .bool o8]])
          (K .ret [.ptr 0 0, .ptr 1 0] [.box [.int .i64 0, .int .i64 0, .str ⟨#[]⟩, .nil, .str ⟨#[]⟩, .nil, .nil, .str ⟨#[]⟩, .bool true], .box [.int .i64 o0, .int .i64 o1, .str o2, .nil, .str o4, .nil, .own 2 0, .str (mQ d c.toNat b).2.1, .bool o8], .rowb 0 .node (mQ d c.toNat b).1])))
    | _, _ => False
noncomputable def cxRd8 : Cx := cxT (tabLook [(92, conMany 43), (91, conCk8)])
def r8Pre (b : ByteArray) : Prop := (mR3 40 b).2.2 = false → (mR3 40 b).2.1.size = 0 → fineNds (mR3 40 b).1
def conRd8 : Con := conP [.str] fun (b : ByteArray) => { pre := some (r8Pre b), res := .tup [.row .node (r8L b), .int .i64 (r8E b)] }
end Go.Proofs.YtnhipiedjekkpaaGreatDoor.AX
end
section
namespace Go.Proofs.YtnhipiedjekkpaaGreatDoor.AX
open Go AXP
set_option maxRecDepth 100000
theorem vcOne0 (j : Nat) (d i z0 z1 o0 o1 c ce : Int) (b z2 z4 z7 o2 o4 o7 cs cr : ByteArray) (z8 o8 : Bool) (cl : List ByteArray) (K : Ex → List AV → List Blk → Prop) : (bodyA (cxOne8 j) (LL Tryz.f112 [lsOne8]) Tryz.f112.ntmps (loopAt Tryz.f112 0).1 (loopAt Tryz.f112 0).2 lsOne8.keep lsOne8.left K [.int .i64 d, .ptr 0 0, .ptr 1 0, .ptr 2 0, .str b, .int .i64 i] [.box [.int .i64 z0, .int .i64 z1, .str z2, .nil, .str z4, .nil, .nil, .str z7, .bool z8], .box [.int .i64 o0, .int .i64 o1, .str o2, .nil, .str o4, .nil, .nil, .str o7, .bool o8], .box [.int .i64 c, .str cs, .row .str cl, .str cr, .int .i64 ce]]) = (
Br (decide (i < c))
 (Br (ttE b != (0 : Int))
 (K Ex.ret [AV.ptr (0 : Nat) (0 : Nat), AV.ptr ((0 : Nat) + (1 : Nat)) (0 : Nat), AV.int IntKind.i64 d, AV.str b]
 [Blk.box
 [AV.int IntKind.i64 (0 : Int), AV.int IntKind.i64 (0 : Int), AV.str (ByteArray.mk (Array.mk [])), AV.nil,
 AV.str (ByteArray.mk (Array.mk [])), AV.nil, AV.nil, AV.str (ByteArray.mk (Array.mk [])), AV.bool true],
 Blk.box
 [AV.int IntKind.i64 o0, AV.int IntKind.i64 o1, AV.str o2, AV.nil, AV.str o4, AV.nil, AV.nil, AV.str o7,
 AV.bool o8]])
 (Br (ttE (ttR b) != (0 : Int))
 (K Ex.ret [AV.ptr (0 : Nat) (0 : Nat), AV.ptr ((0 : Nat) + (1 : Nat)) (0 : Nat), AV.int IntKind.i64 d, AV.str b]
 [Blk.box
 [AV.int IntKind.i64 (0 : Int), AV.int IntKind.i64 (0 : Int), AV.str (ByteArray.mk (Array.mk [])), AV.nil,
 AV.str (ByteArray.mk (Array.mk [])), AV.nil, AV.nil, AV.str (ByteArray.mk (Array.mk [])), AV.bool true],
 Blk.box
 [AV.int IntKind.i64 o0, AV.int IntKind.i64 o1, AV.str o2, AV.nil, AV.str o4, AV.nil, AV.nil, AV.str o7,
 AV.bool o8]])
 (Rq ([At.mk (ttS b) (ttS (ttR b))].length * (32 : Nat) ≤ maxSl)
 (K Ex.norm
 [AV.int IntKind.i64 d, AV.ptr (0 : Nat) (0 : Nat), AV.ptr ((0 : Nat) + (1 : Nat)) (0 : Nat),
 AV.ptr ((0 : Nat) + (1 : Nat) + (1 : Nat)) (0 : Nat), AV.str (ttR (ttR b)),
 AV.int IntKind.i64 (IntKind.i64.wrap (i + (1 : Int)))]
 [Blk.box
 [AV.int IntKind.i64 z0, AV.int IntKind.i64 z1, AV.str z2, AV.nil, AV.str z4, AV.nil, AV.nil, AV.str z7,
 AV.bool z8],
 Blk.box
 [AV.int IntKind.i64 o0, AV.int IntKind.i64 o1, AV.str o2,
 AV.own ((0 : Nat) + (1 : Nat) + (1 : Nat) + (1 : Nat)) (0 : Nat), AV.str o4, AV.nil, AV.nil, AV.str o7,
 AV.bool o8],
 Blk.box [AV.int IntKind.i64 c, AV.str cs, AV.row Ty.str cl, AV.str cr, AV.int IntKind.i64 ce],
 Blk.rowb (0 : Nat) Ty.attr [At.mk (ttS b) (ttS (ttR b))]]))))
 (K (Ex.exit (0 : Nat))
 [AV.ptr (0 : Nat) (0 : Nat), AV.ptr ((0 : Nat) + (1 : Nat)) (0 : Nat), AV.int IntKind.i64 d, AV.str b]
 [Blk.box
 [AV.int IntKind.i64 z0, AV.int IntKind.i64 z1, AV.str z2, AV.nil, AV.str z4, AV.nil, AV.nil, AV.str z7,
 AV.bool z8],
 Blk.box
 [AV.int IntKind.i64 o0, AV.int IntKind.i64 o1, AV.str o2, AV.nil, AV.str o4, AV.nil, AV.nil, AV.str o7,
 AV.bool o8]])) := by kernel_rfl
theorem vcOne1 (j : Nat) (d i z0 z1 o0 o1 c ce : Int) (b z2 z4 z7 o2 o4 o7 cs cr : ByteArray) (z8 o8 : Bool) (cl : List ByteArray) (a : List At) (K : Ex → List AV → List Blk → Prop) : (bodyA (cxOne8 j) (LL Tryz.f112 [lsOne8]) Tryz.f112.ntmps (loopAt Tryz.f112 0).1 (loopAt Tryz.f112 0).2 lsOne8.keep lsOne8.left K [.int .i64 d, .ptr 0 0, .ptr 1 0, .ptr 2 0, .str b, .int .i64 i] [.box [.int .i64 z0, .int .i64 z1, .str z2, .nil, .str z4, .nil, .nil, .str z7, .bool z8], .box [.int .i64 o0, .int .i64 o1, .str o2, .own 3 0, .str o4, .nil, .nil, .str o7, .bool o8], .box [.int .i64 c, .str cs, .row .str cl, .str cr, .int .i64 ce], .rowb 0 .attr a]) = (
Br (decide (i < c))
 (Br (ttE b != (0 : Int))
 (K Ex.ret [AV.ptr (0 : Nat) (0 : Nat), AV.ptr ((0 : Nat) + (1 : Nat)) (0 : Nat), AV.int IntKind.i64 d, AV.str b]
 [Blk.box
 [AV.int IntKind.i64 (0 : Int), AV.int IntKind.i64 (0 : Int), AV.str (ByteArray.mk (Array.mk [])), AV.nil,
 AV.str (ByteArray.mk (Array.mk [])), AV.nil, AV.nil, AV.str (ByteArray.mk (Array.mk [])), AV.bool true],
 Blk.box
 [AV.int IntKind.i64 o0, AV.int IntKind.i64 o1, AV.str o2,
 AV.own ((0 : Nat) + (1 : Nat) + (1 : Nat)) (0 : Nat), AV.str o4, AV.nil, AV.nil, AV.str o7, AV.bool o8],
 Blk.rowb (0 : Nat) Ty.attr a])
 (Br (ttE (ttR b) != (0 : Int))
 (K Ex.ret [AV.ptr (0 : Nat) (0 : Nat), AV.ptr ((0 : Nat) + (1 : Nat)) (0 : Nat), AV.int IntKind.i64 d, AV.str b]
 [Blk.box
 [AV.int IntKind.i64 (0 : Int), AV.int IntKind.i64 (0 : Int), AV.str (ByteArray.mk (Array.mk [])), AV.nil,
 AV.str (ByteArray.mk (Array.mk [])), AV.nil, AV.nil, AV.str (ByteArray.mk (Array.mk [])), AV.bool true],
 Blk.box
 [AV.int IntKind.i64 o0, AV.int IntKind.i64 o1, AV.str o2,
 AV.own ((0 : Nat) + (1 : Nat) + (1 : Nat)) (0 : Nat), AV.str o4, AV.nil, AV.nil, AV.str o7, AV.bool o8],
 Blk.rowb (0 : Nat) Ty.attr a])
 (Rq ((a.length + [At.mk (ttS b) (ttS (ttR b))].length) * (32 : Nat) ≤ maxSl)
 (K Ex.norm
 [AV.int IntKind.i64 d, AV.ptr (0 : Nat) (0 : Nat), AV.ptr ((0 : Nat) + (1 : Nat)) (0 : Nat),
 AV.ptr ((0 : Nat) + (1 : Nat) + (1 : Nat)) (0 : Nat), AV.str (ttR (ttR b)),
 AV.int IntKind.i64 (IntKind.i64.wrap (i + (1 : Int)))]
 [Blk.box
 [AV.int IntKind.i64 z0, AV.int IntKind.i64 z1, AV.str z2, AV.nil, AV.str z4, AV.nil, AV.nil, AV.str z7,
 AV.bool z8],
 Blk.box
 [AV.int IntKind.i64 o0, AV.int IntKind.i64 o1, AV.str o2,
 AV.own ((0 : Nat) + (1 : Nat) + (1 : Nat) + (1 : Nat)) (0 : Nat), AV.str o4, AV.nil, AV.nil, AV.str o7,
 AV.bool o8],
 Blk.box [AV.int IntKind.i64 c, AV.str cs, AV.row Ty.str cl, AV.str cr, AV.int IntKind.i64 ce],
 Blk.rowb (0 : Nat) Ty.attr (a ++ [At.mk (ttS b) (ttS (ttR b))])]))))
 (K (Ex.exit (0 : Nat))
 [AV.ptr (0 : Nat) (0 : Nat), AV.ptr ((0 : Nat) + (1 : Nat)) (0 : Nat), AV.int IntKind.i64 d, AV.str b]
 [Blk.box
 [AV.int IntKind.i64 z0, AV.int IntKind.i64 z1, AV.str z2, AV.nil, AV.str z4, AV.nil, AV.nil, AV.str z7,
 AV.bool z8],
 Blk.box
 [AV.int IntKind.i64 o0, AV.int IntKind.i64 o1, AV.str o2, AV.own ((0 : Nat) + (1 : Nat) + (1 : Nat)) (0 : Nat),
 AV.str o4, AV.nil, AV.nil, AV.str o7, AV.bool o8],
 Blk.rowb (0 : Nat) Ty.attr a])) := by kernel_rfl
theorem vcOneF (j : Nat) (b : ByteArray) (d : Int) (Q : List AV → List Blk → List Blk → Prop) : (funA (cxOne8 j) (LL Tryz.f112 [lsOne8]) Tryz.f112 [.str b, .int .i64 d] [] [.as, .as, .as, .row .attr, .as, .row .node, .row .node, .as, .as] Q) = (
Br (tkE b != (0 : Int))
 (Q
 [AV.agg
 [AV.int IntKind.i64 (0 : Int), AV.int IntKind.i64 (0 : Int), AV.str (ByteArray.mk (Array.mk [])),
 AV.row Ty.attr [], AV.str (ByteArray.mk (Array.mk [])), AV.row Ty.node [], AV.row Ty.node [],
 AV.str (ByteArray.mk (Array.mk [])), AV.bool true]]
 [] [])
 (Br (decide (tkN b > (3 : Int)))
 (Q
 [AV.agg
 [AV.int IntKind.i64 (0 : Int), AV.int IntKind.i64 (0 : Int), AV.str (ByteArray.mk (Array.mk [])),
 AV.row Ty.attr [], AV.str (ByteArray.mk (Array.mk [])), AV.row Ty.node [], AV.row Ty.node [],
 AV.str (ByteArray.mk (Array.mk [])), AV.bool true]]
 [] [])
 (Br (tkN b == (2 : Int))
 (Q
 [AV.agg
 [AV.int IntKind.i64 (tkN b), AV.int IntKind.i64 (0 : Int), AV.str (ByteArray.mk (Array.mk [])),
 AV.row Ty.attr [], AV.str (ttS (tkR b)), AV.row Ty.node [], AV.row Ty.node [], AV.str (ttR (tkR b)),
 AV.bool (ttE (tkR b) != (0 : Int))]]
 [] [])
 (Br (tkN b == (3 : Int))
 (Q
 [AV.agg
 [AV.int IntKind.i64 (tkN b), AV.int IntKind.i64 (0 : Int), AV.str (ByteArray.mk (Array.mk [])),
 AV.row Ty.attr [], AV.str (ttS (tkR b)), AV.row Ty.node [], AV.row Ty.node [], AV.str (ttR (tkR b)),
 AV.bool (ttE (tkR b) != (0 : Int))]]
 [] [])
 (Br (tkE (tkR b) != (0 : Int))
 (Q
 [AV.agg
 [AV.int IntKind.i64 (0 : Int), AV.int IntKind.i64 (0 : Int), AV.str (ByteArray.mk (Array.mk [])),
 AV.row Ty.attr [], AV.str (ByteArray.mk (Array.mk [])), AV.row Ty.node [], AV.row Ty.node [],
 AV.str (ByteArray.mk (Array.mk [])), AV.bool true]]
 [] [])
 (Br (ttE (tkR (tkR b)) != (0 : Int))
 (Q
 [AV.agg
 [AV.int IntKind.i64 (0 : Int), AV.int IntKind.i64 (0 : Int), AV.str (ByteArray.mk (Array.mk [])),
 AV.row Ty.attr [], AV.str (ByteArray.mk (Array.mk [])), AV.row Ty.node [], AV.row Ty.node [],
 AV.str (ByteArray.mk (Array.mk [])), AV.bool true]]
 [] [])
 (Br (tkE (ttR (tkR (tkR b))) != (0 : Int))
 (Q
 [AV.agg
 [AV.int IntKind.i64 (0 : Int), AV.int IntKind.i64 (0 : Int), AV.str (ByteArray.mk (Array.mk [])),
 AV.row Ty.attr [], AV.str (ByteArray.mk (Array.mk [])), AV.row Ty.node [], AV.row Ty.node [],
 AV.str (ByteArray.mk (Array.mk [])), AV.bool true]]
 [] [])
 (Br (decide (tkN (tkR b) > (2 : Int)))
 (Q
 [AV.agg
 [AV.int IntKind.i64 (0 : Int), AV.int IntKind.i64 (0 : Int), AV.str (ByteArray.mk (Array.mk [])),
 AV.row Ty.attr [], AV.str (ByteArray.mk (Array.mk [])), AV.row Ty.node [], AV.row Ty.node [],
 AV.str (ByteArray.mk (Array.mk [])), AV.bool true]]
 [] [])
 (Br (decide (tkN (ttR (tkR (tkR b))) > (12 : Int)))
 (Q
 [AV.agg
 [AV.int IntKind.i64 (0 : Int), AV.int IntKind.i64 (0 : Int),
 AV.str (ByteArray.mk (Array.mk [])), AV.row Ty.attr [], AV.str (ByteArray.mk (Array.mk [])),
 AV.row Ty.node [], AV.row Ty.node [], AV.str (ByteArray.mk (Array.mk [])), AV.bool true]]
 [] [])
 (Rq
 ((0 : Int) = (0 : Int) ∧ (0 : Int) ≤ tkN (ttR (tkR (tkR b))) ∧ tkN (ttR (tkR (tkR b))) ≤ (12 : Int))
 (Br (aQ (tkN (ttR (tkR (tkR b)))).toNat (tkR (ttR (tkR (tkR b))))).2.2
 (Br ((aQ (tkN (ttR (tkR (tkR b)))).toNat (tkR (ttR (tkR (tkR b))))).1.length == (0 : Nat))
 (Rq
 ((IntKind.i64.wrap (d - (1 : Int)) + (2 : Int)).toNat < j ∧
 (-1 : Int) ≤ IntKind.i64.wrap (d - (1 : Int)) ∧
 IntKind.i64.wrap (d - (1 : Int)) ≤ (40 : Int))
 (Q
 [AV.agg
 [AV.int IntKind.i64 (tkN b), AV.int IntKind.i64 (tkN (tkR b)),
 AV.str (ttS (tkR (tkR b))), AV.row Ty.attr [], AV.str (ByteArray.mk (Array.mk [])),
 AV.row Ty.node
 (mR3 (IntKind.i64.wrap (d - (1 : Int)))
 (aQ (tkN (ttR (tkR (tkR b)))).toNat (tkR (ttR (tkR (tkR b))))).2.1).1,
 AV.row Ty.node [],
 AV.str
 (mR3 (IntKind.i64.wrap (d - (1 : Int)))
 (aQ (tkN (ttR (tkR (tkR b)))).toNat (tkR (ttR (tkR (tkR b))))).2.1).2.1,
 AV.bool
 (mR3 (IntKind.i64.wrap (d - (1 : Int)))
 (aQ (tkN (ttR (tkR (tkR b)))).toNat (tkR (ttR (tkR (tkR b))))).2.1).2.2]]
 [] []))
 (Rq
 ((IntKind.i64.wrap (d - (1 : Int)) + (2 : Int)).toNat < j ∧
 (-1 : Int) ≤ IntKind.i64.wrap (d - (1 : Int)) ∧
 IntKind.i64.wrap (d - (1 : Int)) ≤ (40 : Int))
 (Q
 [AV.agg
 [AV.int IntKind.i64 (tkN b), AV.int IntKind.i64 (tkN (tkR b)),
 AV.str (ttS (tkR (tkR b))),
 AV.row Ty.attr (aQ (tkN (ttR (tkR (tkR b)))).toNat (tkR (ttR (tkR (tkR b))))).1,
 AV.str (ByteArray.mk (Array.mk [])),
 AV.row Ty.node
 (mR3 (IntKind.i64.wrap (d - (1 : Int)))
 (aQ (tkN (ttR (tkR (tkR b)))).toNat (tkR (ttR (tkR (tkR b))))).2.1).1,
 AV.row Ty.node [],
 AV.str
 (mR3 (IntKind.i64.wrap (d - (1 : Int)))
 (aQ (tkN (ttR (tkR (tkR b)))).toNat (tkR (ttR (tkR (tkR b))))).2.1).2.1,
 AV.bool
 (mR3 (IntKind.i64.wrap (d - (1 : Int)))
 (aQ (tkN (ttR (tkR (tkR b)))).toNat (tkR (ttR (tkR (tkR b))))).2.1).2.2]]
 [] [])))
 (Br ((aQ (tkN (ttR (tkR (tkR b)))).toNat (tkR (ttR (tkR (tkR b))))).1.length == (0 : Nat))
 (Q
 [AV.agg
 [AV.int IntKind.i64 (0 : Int), AV.int IntKind.i64 (0 : Int),
 AV.str (ByteArray.mk (Array.mk [])), AV.row Ty.attr [],
 AV.str (ByteArray.mk (Array.mk [])), AV.row Ty.node [], AV.row Ty.node [],
 AV.str (ByteArray.mk (Array.mk [])), AV.bool true]]
 [] [])
 (Q
 [AV.agg
 [AV.int IntKind.i64 (0 : Int), AV.int IntKind.i64 (0 : Int),
 AV.str (ByteArray.mk (Array.mk [])), AV.row Ty.attr [],
 AV.str (ByteArray.mk (Array.mk [])), AV.row Ty.node [], AV.row Ty.node [],
 AV.str (ByteArray.mk (Array.mk [])), AV.bool true]]
 [] []))))))))))))) := by kernel_rfl
theorem vcMany0 (j : Nat) (d i z0 z1 o0 o1 c ce : Int) (b z2 z4 z7 o2 o4 cs cr : ByteArray) (z8 o8 : Bool) (cl : List ByteArray) (K : Ex → List AV → List Blk → Prop) : (bodyA (cxMany j) (LL Tryz.f92 [lsMany j]) Tryz.f92.ntmps (loopAt Tryz.f92 0).1 (loopAt Tryz.f92 0).2 (lsMany j).keep (lsMany j).left K [.int .i64 d, .ptr 0 0, .ptr 1 0, .ptr 2 0, .int .i64 i] [.box [.int .i64 z0, .int .i64 z1, .str z2, .nil, .str z4, .nil, .nil, .str z7, .bool z8], .box [.int .i64 c, .str cs, .row .str cl, .str cr, .int .i64 ce], .box [.int .i64 o0, .int .i64 o1, .str o2, .nil, .str o4, .nil, .nil, .str b, .bool o8]]) = (
Br (decide (i < c))
 (Rq ((d + (1 : Int)).toNat < j ∧ (0 : Int) ≤ d ∧ d ≤ (40 : Int))
 (Br (oT d b).2.2
 (K Ex.ret [AV.ptr (0 : Nat) (0 : Nat), AV.ptr ((0 : Nat) + (1 : Nat)) (0 : Nat)]
 [Blk.box
 [AV.int IntKind.i64 (0 : Int), AV.int IntKind.i64 (0 : Int), AV.str (ByteArray.mk (Array.mk [])), AV.nil,
 AV.str (ByteArray.mk (Array.mk [])), AV.nil, AV.nil, AV.str (ByteArray.mk (Array.mk [])), AV.bool true],
 Blk.box
 [AV.int IntKind.i64 o0, AV.int IntKind.i64 o1, AV.str o2, AV.nil, AV.str o4, AV.nil, AV.nil, AV.str b,
 AV.bool o8]])
 (Rq
 ([Nd.mk (oT d b).1.1 (oT d b).1.2 (oT d b).1.3 (oT d b).1.4 (oT d b).1.5 (oT d b).1.6].length * (96 : Nat) ≤
 maxSl)
 (K Ex.norm
 [AV.int IntKind.i64 d, AV.ptr (0 : Nat) (0 : Nat), AV.ptr ((0 : Nat) + (1 : Nat)) (0 : Nat),
 AV.ptr ((0 : Nat) + (1 : Nat) + (1 : Nat)) (0 : Nat), AV.int IntKind.i64 (IntKind.i64.wrap (i + (1 : Int)))]
 [Blk.box
 [AV.int IntKind.i64 z0, AV.int IntKind.i64 z1, AV.str z2, AV.nil, AV.str z4, AV.nil, AV.nil, AV.str z7,
 AV.bool z8],
 Blk.box [AV.int IntKind.i64 c, AV.str cs, AV.row Ty.str cl, AV.str cr, AV.int IntKind.i64 ce],
 Blk.box
 [AV.int IntKind.i64 o0, AV.int IntKind.i64 o1, AV.str o2, AV.nil, AV.str o4, AV.nil,
 AV.own ((0 : Nat) + (1 : Nat) + (1 : Nat) + (1 : Nat)) (0 : Nat), AV.str (oT d b).2.1, AV.bool o8],
 Blk.rowb (0 : Nat) Ty.node
 [Nd.mk (oT d b).1.1 (oT d b).1.2 (oT d b).1.3 (oT d b).1.4 (oT d b).1.5 (oT d b).1.6]]))))
 (K (Ex.exit (0 : Nat)) [AV.ptr (0 : Nat) (0 : Nat), AV.ptr ((0 : Nat) + (1 : Nat)) (0 : Nat)]
 [Blk.box
 [AV.int IntKind.i64 z0, AV.int IntKind.i64 z1, AV.str z2, AV.nil, AV.str z4, AV.nil, AV.nil, AV.str z7,
 AV.bool z8],
 Blk.box
 [AV.int IntKind.i64 o0, AV.int IntKind.i64 o1, AV.str o2, AV.nil, AV.str o4, AV.nil, AV.nil, AV.str b,
 AV.bool o8]])) := by kernel_rfl
theorem vcMany1 (j : Nat) (d i z0 z1 o0 o1 c ce : Int) (b z2 z4 z7 o2 o4 cs cr : ByteArray) (z8 o8 : Bool) (cl : List ByteArray) (a : List Nd) (K : Ex → List AV → List Blk → Prop) : (bodyA (cxMany j) (LL Tryz.f92 [lsMany j]) Tryz.f92.ntmps (loopAt Tryz.f92 0).1 (loopAt Tryz.f92 0).2 (lsMany j).keep (lsMany j).left K [.int .i64 d, .ptr 0 0, .ptr 1 0, .ptr 2 0, .int .i64 i] [.box [.int .i64 z0, .int .i64 z1, .str z2, .nil, .str z4, .nil, .nil, .str z7, .bool z8], .box [.int .i64 c, .str cs, .row .str cl, .str cr, .int .i64 ce], .box [.int .i64 o0, .int .i64 o1, .str o2, .nil, .str o4, .nil, .own 3 0, .str b, .bool o8], .rowb 0 .node a]) = (
Br (decide (i < c))
 (Rq ((d + (1 : Int)).toNat < j ∧ (0 : Int) ≤ d ∧ d ≤ (40 : Int))
 (Br (oT d b).2.2
 (K Ex.ret [AV.ptr (0 : Nat) (0 : Nat), AV.ptr ((0 : Nat) + (1 : Nat)) (0 : Nat)]
 [Blk.box
 [AV.int IntKind.i64 (0 : Int), AV.int IntKind.i64 (0 : Int), AV.str (ByteArray.mk (Array.mk [])), AV.nil,
 AV.str (ByteArray.mk (Array.mk [])), AV.nil, AV.nil, AV.str (ByteArray.mk (Array.mk [])), AV.bool true],
 Blk.box
 [AV.int IntKind.i64 o0, AV.int IntKind.i64 o1, AV.str o2, AV.nil, AV.str o4, AV.nil,
 AV.own ((0 : Nat) + (1 : Nat) + (1 : Nat)) (0 : Nat), AV.str b, AV.bool o8],
 Blk.rowb (0 : Nat) Ty.node a])
 (Rq
 ((a.length + [Nd.mk (oT d b).1.1 (oT d b).1.2 (oT d b).1.3 (oT d b).1.4 (oT d b).1.5 (oT d b).1.6].length) *
 (96 : Nat) ≤
 maxSl)
 (K Ex.norm
 [AV.int IntKind.i64 d, AV.ptr (0 : Nat) (0 : Nat), AV.ptr ((0 : Nat) + (1 : Nat)) (0 : Nat),
 AV.ptr ((0 : Nat) + (1 : Nat) + (1 : Nat)) (0 : Nat), AV.int IntKind.i64 (IntKind.i64.wrap (i + (1 : Int)))]
 [Blk.box
 [AV.int IntKind.i64 z0, AV.int IntKind.i64 z1, AV.str z2, AV.nil, AV.str z4, AV.nil, AV.nil, AV.str z7,
 AV.bool z8],
 Blk.box [AV.int IntKind.i64 c, AV.str cs, AV.row Ty.str cl, AV.str cr, AV.int IntKind.i64 ce],
 Blk.box
 [AV.int IntKind.i64 o0, AV.int IntKind.i64 o1, AV.str o2, AV.nil, AV.str o4, AV.nil,
 AV.own ((0 : Nat) + (1 : Nat) + (1 : Nat) + (1 : Nat)) (0 : Nat), AV.str (oT d b).2.1, AV.bool o8],
 Blk.rowb (0 : Nat) Ty.node
 (a ++ [Nd.mk (oT d b).1.1 (oT d b).1.2 (oT d b).1.3 (oT d b).1.4 (oT d b).1.5 (oT d b).1.6])]))))
 (K (Ex.exit (0 : Nat)) [AV.ptr (0 : Nat) (0 : Nat), AV.ptr ((0 : Nat) + (1 : Nat)) (0 : Nat)]
 [Blk.box
 [AV.int IntKind.i64 z0, AV.int IntKind.i64 z1, AV.str z2, AV.nil, AV.str z4, AV.nil, AV.nil, AV.str z7,
 AV.bool z8],
 Blk.box
 [AV.int IntKind.i64 o0, AV.int IntKind.i64 o1, AV.str o2, AV.nil, AV.str o4, AV.nil,
 AV.own ((0 : Nat) + (1 : Nat) + (1 : Nat)) (0 : Nat), AV.str b, AV.bool o8],
 Blk.rowb (0 : Nat) Ty.node a])) := by kernel_rfl
theorem vcManyF (j : Nat) (b : ByteArray) (d : Int) (Q : List AV → List Blk → List Blk → Prop) : (funA (cxMany j) (LL Tryz.f92 [lsMany j]) Tryz.f92 [.str b, .int .i64 d] [] [.as, .as, .as, .row .attr, .as, .row .node, .row .node, .as, .as] Q) = (
Br (tkE b != (0 : Int))
 (Q
 [AV.agg
 [AV.int IntKind.i64 (0 : Int), AV.int IntKind.i64 (0 : Int), AV.str (ByteArray.mk (Array.mk [])),
 AV.row Ty.attr [], AV.str (ByteArray.mk (Array.mk [])), AV.row Ty.node [], AV.row Ty.node [],
 AV.str (ByteArray.mk (Array.mk [])), AV.bool true]]
 [] [])
 (Br (decide (tkN b > (300 : Int)))
 (Q
 [AV.agg
 [AV.int IntKind.i64 (0 : Int), AV.int IntKind.i64 (0 : Int), AV.str (ByteArray.mk (Array.mk [])),
 AV.row Ty.attr [], AV.str (ByteArray.mk (Array.mk [])), AV.row Ty.node [], AV.row Ty.node [],
 AV.str (ByteArray.mk (Array.mk [])), AV.bool true]]
 [] [])
 (Br (decide (d < (0 : Int)))
 (Q
 [AV.agg
 [AV.int IntKind.i64 (0 : Int), AV.int IntKind.i64 (0 : Int), AV.str (ByteArray.mk (Array.mk [])),
 AV.row Ty.attr [], AV.str (ByteArray.mk (Array.mk [])), AV.row Ty.node [], AV.row Ty.node [],
 AV.str (ByteArray.mk (Array.mk [])), AV.bool true]]
 [] [])
 (Rq
 ((0 : Int) = (0 : Int) ∧
 (0 : Int) ≤ tkN b ∧ tkN b ≤ (300 : Int) ∧ (d + (1 : Int)).toNat < j ∧ (0 : Int) ≤ d ∧ d ≤ (40 : Int))
 (Br (mQ d (tkN b).toNat (tkR b)).2.2
 (Br ((mQ d (tkN b).toNat (tkR b)).1.length == (0 : Nat))
 (Q
 [AV.agg
 [AV.int IntKind.i64 (0 : Int), AV.int IntKind.i64 (0 : Int), AV.str (ByteArray.mk (Array.mk [])),
 AV.row Ty.attr [], AV.str (ByteArray.mk (Array.mk [])), AV.row Ty.node [], AV.row Ty.node [],
 AV.str (mQ d (tkN b).toNat (tkR b)).2.1, AV.bool false]]
 [] [])
 (Q
 [AV.agg
 [AV.int IntKind.i64 (0 : Int), AV.int IntKind.i64 (0 : Int), AV.str (ByteArray.mk (Array.mk [])),
 AV.row Ty.attr [], AV.str (ByteArray.mk (Array.mk [])), AV.row Ty.node [],
 AV.row Ty.node (mQ d (tkN b).toNat (tkR b)).1, AV.str (mQ d (tkN b).toNat (tkR b)).2.1,
 AV.bool false]]
 [] []))
 (Br ((mQ d (tkN b).toNat (tkR b)).1.length == (0 : Nat))
 (Q
 [AV.agg
 [AV.int IntKind.i64 (0 : Int), AV.int IntKind.i64 (0 : Int), AV.str (ByteArray.mk (Array.mk [])),
 AV.row Ty.attr [], AV.str (ByteArray.mk (Array.mk [])), AV.row Ty.node [], AV.row Ty.node [],
 AV.str (ByteArray.mk (Array.mk [])), AV.bool true]]
 [] [])
 (Q
 [AV.agg
 [AV.int IntKind.i64 (0 : Int), AV.int IntKind.i64 (0 : Int), AV.str (ByteArray.mk (Array.mk [])),
 AV.row Ty.attr [], AV.str (ByteArray.mk (Array.mk [])), AV.row Ty.node [], AV.row Ty.node [],
 AV.str (ByteArray.mk (Array.mk [])), AV.bool true]]
 [] []))))))) := by kernel_rfl
theorem vcRd8F (b : ByteArray) (Q : List AV → List Blk → List Blk → Prop) : (funA cxRd8 (LL Tryz.f71 []) Tryz.f71 [.str b] [] [.row .node, .as] Q) = (
Rq (((40 : Int) + (2 : Int)).toNat < (43 : Nat) ∧ (-1 : Int) ≤ (40 : Int) ∧ (40 : Int) ≤ (40 : Int))
 (Br (mR3 (40 : Int) b).2.2 (Q [AV.row Ty.node [], AV.int IntKind.i64 (4 : Int)] [] [])
 (Br (!eqS (mR3 (40 : Int) b).2.1 (ByteArray.mk (Array.mk [])))
 (Q [AV.row Ty.node [], AV.int IntKind.i64 (4 : Int)] [] [])
 (Rq (fineNds (mR3 (40 : Int) b).1)
 (Br (checkS (mR3 (40 : Int) b).1 != (0 : Int)) (Q [AV.row Ty.node [], AV.int IntKind.i64 (4 : Int)] [] [])
 (Q [AV.row Ty.node (mR3 (40 : Int) b).1, AV.int IntKind.i64 (0 : Int)] [] [])))))) := by kernel_rfl
end Go.Proofs.YtnhipiedjekkpaaGreatDoor.AX
end
section
namespace Go.Proofs.YtnhipiedjekkpaaGreatDoor.AXP
open Go Go.Proofs.YtnhipiedjekkpaaGreatDoor.AX
theorem tt_none {b : ByteArray} (h : takeT (kb b) = none) : ttE b ≠ 0 := by unfold ttE; rw [h]; decide
theorem tt_some {b : ByteArray} {x r : List UInt8} (h : takeT (kb b) = some (x, r)) : ttE b = 0 ∧ ttS b = bk x ∧ ttR b = bk r := by unfold ttE ttS ttR; rw [h]; exact ⟨rfl, rfl, rfl⟩
theorem tk_none {b : ByteArray} (h : takeN (kb b) = none) : tkE b ≠ 0 := by unfold tkE; rw [h]; decide
theorem tk_some {b : ByteArray} {n : Nat} {r : List UInt8} (h : takeN (kb b) = some (n, r)) : tkE b = 0 ∧ tkN b = n ∧ tkR b = bk r := by unfold tkE tkN tkR; rw [h]; exact ⟨rfl, rfl, rfl⟩
theorem aQ_p : ∀ (c : Nat) (b : ByteArray), pAtts c (kb b) = if (aQ c b).2.2 = true then some ((aQ c b).1, kb (aQ c b).2.1) else none
  | 0, b => rfl
  | c + 1, b => by
    rw [pAtts, aQ]
    cases h1 : takeT (kb b) with
    | none =>
      rw [if_pos (show ttE b ≠ 0 ∨ ttE (ttR b) ≠ 0 from .inl (tt_none h1))]; rfl
    | some p =>
      obtain ⟨x, r⟩ := p
      obtain ⟨e1, e2, e3⟩ := tt_some h1
      dsimp only
      rw [e3]
      cases h2 : takeT r with
      | none =>
        rw [if_pos (show ttE b ≠ 0 ∨ ttE (bk r) ≠ 0 from .inr (tt_none (b := bk r) (by rw [kb_bk]; exact h2)))]; rfl
      | some p =>
        obtain ⟨y, r'⟩ := p
        obtain ⟨f1, f2, f3⟩ := tt_some (b := bk r) (by rw [kb_bk]; exact h2)
        rw [if_neg (show ¬ (ttE b ≠ 0 ∨ ttE (bk r) ≠ 0) by rw [e1, f1]; simp)]
        dsimp only
        have := aQ_p c (bk r')
        rw [kb_bk] at this
        rw [f3, e2, f2, this]
        by_cases q : (aQ c (bk r')).2.2 = true
        · rw [if_pos q, if_pos q]
        · rw [if_neg q, if_neg q]
theorem mR3_p (d : Int) (b : ByteArray) : pNds (d + 1).toNat (kb b) = if (mR3 d b).2.2 = true then none else some ((mR3 d b).1, kb (mR3 d b).2.1) := by
  unfold mR3
  cases pNds (d + 1).toNat (kb b) with
  | none => rfl
  | some p => obtain ⟨l, r⟩ := p; dsimp only; rw [kb_bk]; rfl
theorem oT_p (d : Int) (b : ByteArray) : pNd (pNds d.toNat) (kb b) = if (oT d b).2.2 = true then none else some ((oT d b).1, kb (oT d b).2.1) := by
  unfold pNd oT
  cases h1 : takeN (kb b) with
  | none => rw [if_pos (show tkE b ≠ 0 ∨ tkN b > 3 from .inl (tk_none h1))]; rfl
  | some p =>
    obtain ⟨k, r⟩ := p
    obtain ⟨e1, e2, e3⟩ := tk_some h1
    rw [e1, e2, e3]
    dsimp only
    by_cases hk : k > 3
    · rw [if_pos hk, if_pos (show (0 : Int) ≠ 0 ∨ (k : Int) > 3 by omega)]; rfl
    rw [if_neg hk, if_neg (show ¬ ((0 : Int) ≠ 0 ∨ (k : Int) > 3) by omega)]
    by_cases hl : k = 2 ∨ k = 3
    · have hl' : ((k : Int) == 2 || (k : Int) == 3) = true := by rcases hl with rfl | rfl <;> rfl
      rw [if_pos hl, if_pos hl']
      cases h2 : takeT r with
      | none =>
        have := tt_none (b := bk r) (by rw [kb_bk]; exact h2)
        rw [if_pos (show (ttE (bk r) != 0) = true by simpa using this)]
      | some p =>
        obtain ⟨t, z⟩ := p
        obtain ⟨f1, f2, f3⟩ := tt_some (b := bk r) (by rw [kb_bk]; exact h2)
        rw [f1, f2, f3]
        dsimp only
        rw [kb_bk]; rfl
    have hl' : ¬ ((k : Int) == 2 || (k : Int) == 3) = true := by simp only [Bool.or_eq_true, beq_iff_eq]; omega
    rw [if_neg hl, if_neg hl']
    cases h2 : takeN r with
    | none => rw [if_pos (show tkE (bk r) ≠ 0 ∨ ttE (tkR (bk r)) ≠ 0 ∨ tkE (ttR (tkR (bk r))) ≠ 0 ∨ tkN (bk r) > 2 ∨ tkN (ttR (tkR (bk r))) > 12 from .inl (tk_none (b := bk r) (by rw [kb_bk]; exact h2)))]; rfl
    | some p =>
      obtain ⟨s, r1⟩ := p
      obtain ⟨f1, f2, f3⟩ := tk_some (b := bk r) (by rw [kb_bk]; exact h2)
      rw [f1, f2, f3]
      dsimp only
      cases h3 : takeT r1 with
      | none => rw [if_pos (show (0 : Int) ≠ 0 ∨ ttE (bk r1) ≠ 0 ∨ tkE (ttR (bk r1)) ≠ 0 ∨ (s : Int) > 2 ∨ tkN (ttR (bk r1)) > 12 from .inr (.inl (tt_none (b := bk r1) (by rw [kb_bk]; exact h3))))]; rfl
      | some p =>
        obtain ⟨m, r2⟩ := p
        obtain ⟨g1, g2, g3⟩ := tt_some (b := bk r1) (by rw [kb_bk]; exact h3)
        rw [g1, g2, g3]
        dsimp only
        cases h4 : takeN r2 with
        | none => rw [if_pos (show (0 : Int) ≠ 0 ∨ (0 : Int) ≠ 0 ∨ tkE (bk r2) ≠ 0 ∨ (s : Int) > 2 ∨ tkN (bk r2) > 12 from .inr (.inr (.inl (tk_none (b := bk r2) (by rw [kb_bk]; exact h4)))))]; rfl
        | some p =>
          obtain ⟨c, r3⟩ := p
          obtain ⟨i1, i2, i3⟩ := tk_some (b := bk r2) (by rw [kb_bk]; exact h4)
          rw [i1, i2, i3]
          dsimp only
          by_cases hc : s > 2 ∨ c > 12
          · rw [if_pos hc, if_pos (show (0 : Int) ≠ 0 ∨ (0 : Int) ≠ 0 ∨ (0 : Int) ≠ 0 ∨ (s : Int) > 2 ∨ (c : Int) > 12 by omega)]; rfl
          rw [if_neg hc, if_neg (show ¬ ((0 : Int) ≠ 0 ∨ (0 : Int) ≠ 0 ∨ (0 : Int) ≠ 0 ∨ (s : Int) > 2 ∨ (c : Int) > 12) by omega), Int.toNat_natCast]
          have ha := aQ_p c (bk r3)
          rw [kb_bk] at ha
          rw [ha]
          by_cases hq : (aQ c (bk r3)).2.2 = true
          · rw [if_pos hq, if_pos hq]
            dsimp only
            have hm := mR3_p (d - 1) (aQ c (bk r3)).2.1
            rw [show d - 1 + 1 = d by omega] at hm
            rw [hm]
            by_cases hb : (mR3 (d - 1) (aQ c (bk r3)).2.1).2.2 = true
            · rw [if_pos hb, if_pos hb]
            · rw [if_neg hb, if_neg hb]; rfl
          · rw [if_neg hq, if_neg hq]; rfl
theorem mQ_p (d : Int) : ∀ (c : Nat) (b : ByteArray), pMany (pNd (pNds d.toNat)) c (kb b) = if (mQ d c b).2.2 = true then some ((mQ d c b).1, kb (mQ d c b).2.1) else none
  | 0, b => rfl
  | c + 1, b => by
    rw [pMany, mQ, oT_p]
    by_cases h : (oT d b).2.2 = true
    · rw [if_pos h, if_pos h]; rfl
    · rw [if_neg h, if_neg h]
      dsimp only
      rw [mQ_p d c]
      by_cases q : (mQ d c (oT d b).2.1).2.2 = true
      · rw [if_pos q, if_pos q]
      · rw [if_neg q, if_neg q]
theorem mR3_bad (d : Int) {b : ByteArray} (h : pNds (d + 1).toNat (kb b) = none) : mR3 d b = ([], ⟨#[]⟩, true) := by unfold mR3; rw [h]
theorem mR3_step {d : Int} (hd : 0 ≤ d) {b : ByteArray} : mR3 d b = if tkE b ≠ 0 ∨ tkN b > 300 then ([], ⟨#[]⟩, true) else if (mQ d (tkN b).toNat (tkR b)).2.2 = true then ((mQ d (tkN b).toNat (tkR b)).1, (mQ d (tkN b).toNat (tkR b)).2.1, false) else ([], ⟨#[]⟩, true) := by
  have e : (d + 1).toNat = d.toNat + 1 := by omega
  unfold mR3
  rw [e, pNds]
  cases h1 : takeN (kb b) with
  | none => rw [if_pos (show tkE b ≠ 0 ∨ tkN b > 300 from .inl (tk_none h1))]
  | some p =>
    obtain ⟨k, r⟩ := p
    obtain ⟨e1, e2, e3⟩ := tk_some h1
    rw [e1, e2, e3]
    dsimp only
    by_cases hk : k > 300
    · rw [if_pos hk, if_pos (show (0 : Int) ≠ 0 ∨ (k : Int) > 300 by omega)]
    · rw [if_neg hk, if_neg (show ¬ ((0 : Int) ≠ 0 ∨ (k : Int) > 300) by omega), Int.toNat_natCast]
      have := mQ_p d k (bk r)
      rw [kb_bk] at this
      rw [this]
      by_cases q : (mQ d k (bk r)).2.2 = true
      · rw [if_pos q, if_pos q]; dsimp only; rw [bk_kb]
      · rw [if_neg q, if_neg q]
theorem r8_pre {b : ByteArray} (hb : b.size ≤ 900000) : r8Pre b := fun h _ => by
  have := mR3_p 40 b
  rw [if_neg (by rw [h]; decide)] at this
  obtain ⟨q1, q2⟩ := pNds_len 41 _ _ _ this
  have := kb_size b
  exact ⟨by omega, q2⟩
theorem rd_same {b : ByteArray} : rdL b = r8L b ∧ rdE b = r8E b := by
  have key : rdOK b = true → (mR3 40 b) = ((rdS b).1, bk [], false) ∧ checkS (rdS b).1 = 0 := fun h => by
    unfold rdOK at h
    simp only [Bool.and_eq_true, Bool.not_eq_true', beq_iff_eq] at h
    obtain ⟨⟨h1, h2⟩, h3⟩ := h
    obtain ⟨r, h4, h5⟩ := rd_inv h1
    rw [h5] at h2
    have hr : r = [] := by
      have := congrArg kb (eqS_bk h2)
      rw [kb_bk, kb_bk] at this; exact this
    subst hr
    refine ⟨?_, h3⟩
    unfold mR3
    rw [show ((40 : Int) + 1).toNat = 41 from rfl, h4]
  have key2 : r8OK b = true → rdS b = ((mR3 40 b).1, ⟨bk [], 300 - cntNds (mR3 40 b).1, false⟩) ∧ checkS (mR3 40 b).1 = 0 := fun h => by
    unfold r8OK at h
    simp only [Bool.and_eq_true, Bool.not_eq_true', beq_iff_eq] at h
    obtain ⟨⟨h1, h2⟩, h3⟩ := h
    have hp := mR3_p 40 b
    rw [if_neg (by rw [h1]; decide)] at hp
    have hr := eqS_bk h2
    have hz : kb (mR3 40 b).2.1 = [] := by rw [hr, kb_bk]
    rw [hz] at hp
    have hc := (check_zero h3).1
    exact ⟨rNds_ok 43 1 ⟨b, 300, false⟩ _ [] (by decide) rfl hp (by dsimp only; omega), h3⟩
  have e : rdOK b = r8OK b := by
    cases hq : r8OK b with
    | true =>
      obtain ⟨k1, k2⟩ := key2 hq
      unfold rdOK
      rw [k1, k2]
      dsimp only
      rw [show eqS (bk []) ⟨#[]⟩ = true from eqS_iff.2 rfl]; rfl
    | false =>
      cases hr : rdOK b with
      | false => rfl
      | true =>
        obtain ⟨k1, k2⟩ := key hr
        unfold r8OK at hq
        rw [k1, k2] at hq
        dsimp only at hq
        rw [show eqS (bk []) ⟨#[]⟩ = true from eqS_iff.2 rfl] at hq
        cases hq
  unfold rdL r8L rdE r8E
  rw [e]
  refine ⟨?_, rfl⟩
  split
  · rename_i h
    rw [(key2 h).1]
  · rfl
end Go.Proofs.YtnhipiedjekkpaaGreatDoor.AXP
namespace Go.Proofs.YtnhipiedjekkpaaGreatDoor.AX
open Go AXP
set_option maxRecDepth 100000
def blO (z0 z1 o0 o1 c ce : Int) (z2 z4 z7 o2 o4 o7 cs cr : ByteArray) (z8 o8 : Bool) (cl : List ByteArray) : List At → List Blk
  | [] => [.box [.int .i64 z0, .int .i64 z1, .str z2, .nil, .str z4, .nil, .nil, .str z7, .bool z8], .box [.int .i64 o0, .int .i64 o1, .str o2, .nil, .str o4, .nil, .nil, .str o7, .bool o8], .box [.int .i64 c, .str cs, .row .str cl, .str cr, .int .i64 ce]]
  | x :: l => [.box [.int .i64 z0, .int .i64 z1, .str z2, .nil, .str z4, .nil, .nil, .str z7, .bool z8], .box [.int .i64 o0, .int .i64 o1, .str o2, .own 3 0, .str o4, .nil, .nil, .str o7, .bool o8], .box [.int .i64 c, .str cs, .row .str cl, .str cr, .int .i64 ce], .rowb 0 .attr (x :: l)]
theorem one_sum (j : Nat) : SumOK (cxOne8 j) (LL Tryz.f112 [lsOne8]) Tryz.f112.ntmps (loopAt Tryz.f112 0).1 (loopAt Tryz.f112 0).2 lsOne8 := by
  intro vs bs K hs
  unfold lsOne8 at hs
  simp only at hs
  split at hs
  case h_2 => exact hs.elim
  rename_i d b i z0 z1 z2 z4 z7 z8 o0 o1 o2 o4 o7 o8 c cs cl cr ce
  obtain ⟨⟨rfl, h0, h12⟩, h⟩ := hs
  obtain ⟨c, rfl⟩ := Int.eq_ofNat_of_zero_le h0
  rw [Int.toNat_natCast] at h
  have hmx : maxSl = 140737488355328 := rfl
  refine sum_rec (σ := Nat × ByteArray × List At) (fun s => [.int .i64 d, .ptr 0 0, .ptr 1 0, .ptr 2 0, .str s.2.1, .int .i64 (s.1 : Nat)]) (fun s => blO z0 z1 o0 o1 c ce z2 z4 z7 o2 o4 o7 cs cr z8 o8 cl s.2.2) (fun s => s.1 ≤ c ∧ s.2.2.length ≤ s.1 ∧ s.2.2 ++ (aQ (c - s.1) s.2.1).1 = (aQ c b).1 ∧ (aQ (c - s.1) s.2.1).2 = (aQ c b).2) (fun s => c - s.1) ?_ (0, b, []) ⟨Nat.zero_le _, Nat.le_refl _, rfl, rfl⟩
  rintro ⟨i, b', acc⟩ ⟨h1, h2, h3, h4⟩ R hR
  dsimp only at h1 h2 h3 h4 hR ⊢
  have ew : i < c → IntKind.i64.wrap ((i : Int) + 1) = ((i + 1 : Nat) : Int) := fun _ => by rw [wrap_id'] <;> omega
  have stop : i < c → ttE b' ≠ 0 ∨ ttE (ttR b') ≠ 0 → (aQ c b).1 = acc ∧ (aQ c b).2.1 = b' ∧ (aQ c b).2.2 = false := fun hi q => by
    obtain ⟨f, hf⟩ : ∃ f, c - i = f + 1 := ⟨c - i - 1, by omega⟩
    rw [hf, aQ, if_pos q] at h3 h4
    rw [List.append_nil] at h3
    rw [← h3, ← h4]; exact ⟨rfl, rfl, rfl⟩
  have done : c ≤ i → (aQ c b).1 = acc ∧ (aQ c b).2.1 = b' ∧ (aQ c b).2.2 = true := fun hi => by
    rw [show c - i = 0 by omega, aQ] at h3 h4
    rw [List.append_nil] at h3
    rw [← h3, ← h4]; exact ⟨rfl, rfl, rfl⟩
  have next : i < c → ¬ (ttE b' ≠ 0 ∨ ttE (ttR b') ≠ 0) → R [.int .i64 d, .ptr 0 0, .ptr 1 0, .ptr 2 0, .str (ttR (ttR b')), .int .i64 ((i + 1 : Nat) : Int)] (blO z0 z1 o0 o1 c ce z2 z4 z7 o2 o4 o7 cs cr z8 o8 cl (acc ++ [⟨ttS b', ttS (ttR b')⟩])) := fun hi q => by
    obtain ⟨f, hf⟩ : ∃ f, c - i = f + 1 := ⟨c - i - 1, by omega⟩
    rw [hf, aQ, if_neg q] at h3 h4
    refine hR (i + 1, ttR (ttR b'), acc ++ [⟨ttS b', ttS (ttR b')⟩]) ⟨by dsimp only; omega, ?_, ?_, ?_⟩ (by dsimp only; omega)
    · dsimp only; rw [List.length_append]; simp only [List.length_cons, List.length_nil]; omega
    · dsimp only; rw [show c - (i + 1) = f by omega, List.append_assoc]; exact h3
    · dsimp only; rw [show c - (i + 1) = f by omega]; exact h4
  cases acc with
  | nil =>
    refine Eq.mpr (vcOne0 j d i z0 z1 o0 o1 c ce b' z2 z4 z7 o2 o4 o7 cs cr z8 o8 cl _) ⟨fun q => ?_, fun q => ?_⟩
    · have q : i < c := by have := of_decide_eq_true q; omega
      rw [ew q]
      refine ⟨fun g1 => ?_, fun g1 => ⟨fun g2 => ?_, fun g2 => Rq.mk (show 1 * 32 ≤ maxSl by decide) (next q ?_)⟩⟩
      · obtain ⟨a1, a2, a3⟩ := stop q (.inl (by simpa using g1))
        rw [a1, a2, a3] at h
        exact (h.no rfl).yes rfl
      · obtain ⟨a1, a2, a3⟩ := stop q (.inr (by simpa using g2))
        rw [a1, a2, a3] at h
        exact (h.no rfl).yes rfl
      · have g1 : ttE b' = 0 := by simpa using g1
        have g2 : ttE (ttR b') = 0 := by simpa using g2
        rw [g1, g2]; simp
    · have q := of_decide_eq_false q
      obtain ⟨a1, a2, a3⟩ := done (by omega)
      rw [a1, a2, a3] at h
      exact (h.yes rfl).yes rfl
  | cons x l =>
    refine Eq.mpr (vcOne1 j d i z0 z1 o0 o1 c ce b' z2 z4 z7 o2 o4 o7 cs cr z8 o8 cl (x :: l) _) ⟨fun q => ?_, fun q => ?_⟩
    · have q : i < c := by have := of_decide_eq_true q; omega
      rw [ew q]
      refine ⟨fun g1 => ?_, fun g1 => ⟨fun g2 => ?_, fun g2 => Rq.mk ?_ (next q ?_)⟩⟩
      · obtain ⟨a1, a2, a3⟩ := stop q (.inl (by simpa using g1))
        rw [a1, a2, a3] at h
        exact (h.no rfl).no rfl
      · obtain ⟨a1, a2, a3⟩ := stop q (.inr (by simpa using g2))
        rw [a1, a2, a3] at h
        exact (h.no rfl).no rfl
      · simp only [List.length_cons, List.length_nil] at h2 ⊢; omega
      · have g1 : ttE b' = 0 := by simpa using g1
        have g2 : ttE (ttR b') = 0 := by simpa using g2
        rw [g1, g2]; simp
    · have q := of_decide_eq_false q
      obtain ⟨a1, a2, a3⟩ := done (by omega)
      rw [a1, a2, a3] at h
      exact (h.yes rfl).no rfl
def gotOf (n : Nd) (l : List Nd) (r : ByteArray) (e : Bool) : AV := .agg [.int .i64 n.kind, .int .i64 n.space, .str n.name, .row .attr n.attrs, .str n.text, .row .node n.kids, .row .node l, .str r, .bool e]
theorem one_of (j : Nat) (hm : Holds 92 (conMany j)) : Holds 112 (conOne j) := conP_holds fun b d => by
  rcases (show ∃ w : ByteArray, w = b from ⟨_, rfl⟩) with ⟨b, rfl⟩
  rcases (show ∃ w : Int, w = d from ⟨_, rfl⟩) with ⟨d, rfl⟩
  refine fun_meets1 (AllH.tok (.cons tkN1_holds (by kernel_rfl) (.cons tkT1_holds (by kernel_rfl) (.cons hm (by kernel_rfl) .nil)))) [.as, .as, .as, .row .attr, .as, .row .node, .row .node, .as, .as] lsOne8 (by kernel_rfl) (by kernel_rfl) (one_sum j) fun hpre => Eq.mpr (vcOneF j b d _) ?_
  obtain ⟨p1, p2, p3⟩ : (d + 1).toNat < j ∧ 0 ≤ d ∧ d ≤ 40 := hpre _ rfl
  have fin : ∀ n r e, oT d b = (n, r, e) → [gotOf n [] r e] = compsOf (gotOf (oT d b).1 [] (oT d b).2.1 (oT d b).2.2) := fun n r e h => by rw [h]; rfl
  have ew : IntKind.i64.wrap (d - 1) = d - 1 := by rw [wrap_id'] <;> omega
  rw [ew]
  have hd : oT d b = oT d b := rfl
  conv at hd => rhs; unfold oT
  refine ⟨fun g1 => qfin rfl (fin zN8 _ _ ?_) rfl rfl, fun g1 => ⟨fun g2 => qfin rfl (fin zN8 _ _ ?_) rfl rfl, fun g2 => ?_⟩⟩
  · have g1 : tkE b ≠ 0 := by simpa using g1
    exact hd.trans (if_pos (.inl g1))
  · have g2 : tkN b > 3 := of_decide_eq_true g2
    exact hd.trans (if_pos (.inr g2))
  have g1 : tkE b = 0 := by simpa using g1
  have g2 : ¬ tkN b > 3 := of_decide_eq_false g2
  rw [if_neg (show ¬ (tkE b ≠ 0 ∨ tkN b > 3) from fun h => h.elim (fun h => h g1) g2)] at hd
  refine ⟨fun g3 => qfin rfl (fin _ _ _ (hd.trans (if_pos (by rw [g3]; rfl)))) rfl rfl, fun g3 => ⟨fun g4 => qfin rfl (fin _ _ _ (hd.trans (if_pos (by rw [g4, Bool.or_true])))) rfl rfl, fun g4 => ?_⟩⟩
  rw [if_neg (show ¬ (tkN b == 2 || tkN b == 3) = true by rw [g3, g4]; decide)] at hd
  refine ⟨fun h1 => qfin rfl (fin zN8 _ _ (hd.trans (if_pos (.inl (by simpa using h1))))) rfl rfl, fun h1 => ⟨fun h2 => qfin rfl (fin zN8 _ _ (hd.trans (if_pos (.inr (.inl (by simpa using h2)))))) rfl rfl, fun h2 => ⟨fun h3 => qfin rfl (fin zN8 _ _ (hd.trans (if_pos (.inr (.inr (.inl (by simpa using h3))))))) rfl rfl, fun h3 => ⟨fun h4 => qfin rfl (fin zN8 _ _ (hd.trans (if_pos (.inr (.inr (.inr (.inl (of_decide_eq_true h4)))))))) rfl rfl, fun h4 => ⟨fun h5 => qfin rfl (fin zN8 _ _ (hd.trans (if_pos (.inr (.inr (.inr (.inr (of_decide_eq_true h5)))))))) rfl rfl, fun h5 => ?_⟩⟩⟩⟩⟩
  have h1 : tkE (tkR b) = 0 := by simpa using h1
  have h2 : ttE (tkR (tkR b)) = 0 := by simpa using h2
  have h3 : tkE (ttR (tkR (tkR b))) = 0 := by simpa using h3
  have h4 := of_decide_eq_false h4
  have h5 := of_decide_eq_false h5
  rw [if_neg (show ¬ (tkE (tkR b) ≠ 0 ∨ ttE (tkR (tkR b)) ≠ 0 ∨ tkE (ttR (tkR (tkR b))) ≠ 0 ∨ tkN (tkR b) > 2 ∨ tkN (ttR (tkR (tkR b))) > 12) by rw [h1, h2, h3]; simp; omega)] at hd
  have hn : 0 ≤ tkN (ttR (tkR (tkR b))) := by unfold tkN; split <;> omega
  refine Rq.mk ⟨rfl, hn, by omega⟩ ⟨fun q => ⟨fun q2 => Rq.mk ⟨by omega, by omega, by omega⟩ (qfin rfl ?_ rfl rfl), fun q2 => Rq.mk ⟨by omega, by omega, by omega⟩ (qfin rfl (fin _ _ _ (hd.trans (if_pos q))) rfl rfl)⟩, fun q => ⟨fun _ => qfin rfl (fin zN8 _ _ (hd.trans (if_neg (by rw [q]; decide)))) rfl rfl, fun _ => qfin rfl (fin zN8 _ _ (hd.trans (if_neg (by rw [q]; decide)))) rfl rfl⟩⟩
  have q3 := List.eq_nil_of_length_eq_zero (of_decide_eq_true q2)
  have := fin _ _ _ (hd.trans (if_pos q))
  rw [q3] at this
  exact this
def blM (z0 z1 o0 o1 c ce : Int) (z2 z4 z7 o2 o4 cs cr b : ByteArray) (z8 o8 : Bool) (cl : List ByteArray) : List Nd → List Blk
  | [] => [.box [.int .i64 z0, .int .i64 z1, .str z2, .nil, .str z4, .nil, .nil, .str z7, .bool z8], .box [.int .i64 c, .str cs, .row .str cl, .str cr, .int .i64 ce], .box [.int .i64 o0, .int .i64 o1, .str o2, .nil, .str o4, .nil, .nil, .str b, .bool o8]]
  | x :: l => [.box [.int .i64 z0, .int .i64 z1, .str z2, .nil, .str z4, .nil, .nil, .str z7, .bool z8], .box [.int .i64 c, .str cs, .row .str cl, .str cr, .int .i64 ce], .box [.int .i64 o0, .int .i64 o1, .str o2, .nil, .str o4, .nil, .own 3 0, .str b, .bool o8], .rowb 0 .node (x :: l)]
theorem many_sum (j : Nat) : SumOK (cxMany j) (LL Tryz.f92 [lsMany j]) Tryz.f92.ntmps (loopAt Tryz.f92 0).1 (loopAt Tryz.f92 0).2 (lsMany j) := by
  intro vs bs K hs
  unfold lsMany at hs
  simp only at hs
  split at hs
  case h_2 => exact hs.elim
  rename_i d i z0 z1 z2 z4 z7 z8 c cs cl cr ce o0 o1 o2 o4 b o8
  obtain ⟨⟨rfl, h0, h12, p1, p2, p3⟩, h⟩ := hs
  obtain ⟨c, rfl⟩ := Int.eq_ofNat_of_zero_le h0
  rw [Int.toNat_natCast] at h
  have hmx : maxSl = 140737488355328 := rfl
  refine sum_rec (σ := Nat × ByteArray × List Nd) (fun s => [.int .i64 d, .ptr 0 0, .ptr 1 0, .ptr 2 0, .int .i64 (s.1 : Nat)]) (fun s => blM z0 z1 o0 o1 c ce z2 z4 z7 o2 o4 cs cr s.2.1 z8 o8 cl s.2.2) (fun s => s.1 ≤ c ∧ s.2.2.length ≤ s.1 ∧ s.2.2 ++ (mQ d (c - s.1) s.2.1).1 = (mQ d c b).1 ∧ (mQ d (c - s.1) s.2.1).2 = (mQ d c b).2) (fun s => c - s.1) ?_ (0, b, []) ⟨Nat.zero_le _, Nat.le_refl _, rfl, rfl⟩
  rintro ⟨i, b', acc⟩ ⟨h1, h2, h3, h4⟩ R hR
  dsimp only at h1 h2 h3 h4 hR ⊢
  have ew : i < c → IntKind.i64.wrap ((i : Int) + 1) = ((i + 1 : Nat) : Int) := fun _ => by rw [wrap_id'] <;> omega
  have stop : i < c → (oT d b').2.2 = true → (mQ d c b).1 = acc ∧ (mQ d c b).2.1 = b' ∧ (mQ d c b).2.2 = false := fun hi q => by
    obtain ⟨f, hf⟩ : ∃ f, c - i = f + 1 := ⟨c - i - 1, by omega⟩
    rw [hf, mQ, if_pos q] at h3 h4
    rw [List.append_nil] at h3
    rw [← h3, ← h4]; exact ⟨rfl, rfl, rfl⟩
  have done : c ≤ i → (mQ d c b).1 = acc ∧ (mQ d c b).2.1 = b' ∧ (mQ d c b).2.2 = true := fun hi => by
    rw [show c - i = 0 by omega, mQ] at h3 h4
    rw [List.append_nil] at h3
    rw [← h3, ← h4]; exact ⟨rfl, rfl, rfl⟩
  have next : i < c → ¬ (oT d b').2.2 = true → R [.int .i64 d, .ptr 0 0, .ptr 1 0, .ptr 2 0, .int .i64 ((i + 1 : Nat) : Int)] (blM z0 z1 o0 o1 c ce z2 z4 z7 o2 o4 cs cr (oT d b').2.1 z8 o8 cl (acc ++ [(oT d b').1])) := fun hi q => by
    obtain ⟨f, hf⟩ : ∃ f, c - i = f + 1 := ⟨c - i - 1, by omega⟩
    rw [hf, mQ, if_neg q] at h3 h4
    refine hR (i + 1, (oT d b').2.1, acc ++ [(oT d b').1]) ⟨by dsimp only; omega, ?_, ?_, ?_⟩ (by dsimp only; omega)
    · dsimp only; rw [List.length_append]; simp only [List.length_cons, List.length_nil]; omega
    · dsimp only; rw [show c - (i + 1) = f by omega, List.append_assoc]; exact h3
    · dsimp only; rw [show c - (i + 1) = f by omega]; exact h4
  cases acc with
  | nil =>
    refine Eq.mpr (vcMany0 j d i z0 z1 o0 o1 c ce b' z2 z4 z7 o2 o4 cs cr z8 o8 cl _) ⟨fun q => ?_, fun q => ?_⟩
    · have q : i < c := by have := of_decide_eq_true q; omega
      rw [ew q]
      simp only [nd_eta]
      refine Rq.mk ⟨p1, p2, p3⟩ ⟨fun g1 => ?_, fun g1 => Rq.mk (show 1 * 96 ≤ maxSl by decide) (next q (by rw [g1]; decide))⟩
      obtain ⟨a1, a2, a3⟩ := stop q g1
      rw [a1, a2, a3] at h
      exact (h.no rfl).yes rfl
    · have q := of_decide_eq_false q
      obtain ⟨a1, a2, a3⟩ := done (by omega)
      rw [a1, a2, a3] at h
      exact (h.yes rfl).yes rfl
  | cons x l =>
    refine Eq.mpr (vcMany1 j d i z0 z1 o0 o1 c ce b' z2 z4 z7 o2 o4 cs cr z8 o8 cl (x :: l) _) ⟨fun q => ?_, fun q => ?_⟩
    · have q : i < c := by have := of_decide_eq_true q; omega
      rw [ew q]
      simp only [nd_eta]
      refine Rq.mk ⟨p1, p2, p3⟩ ⟨fun g1 => ?_, fun g1 => Rq.mk ?_ (next q (by rw [g1]; decide))⟩
      · obtain ⟨a1, a2, a3⟩ := stop q g1
        rw [a1, a2, a3] at h
        exact (h.no rfl).no rfl
      · simp only [List.length_cons, List.length_nil] at h2 ⊢; omega
    · have q := of_decide_eq_false q
      obtain ⟨a1, a2, a3⟩ := done (by omega)
      rw [a1, a2, a3] at h
      exact (h.yes rfl).no rfl
theorem many_lt : ∀ k, Holds 92 (conMany k)
  | 0 => conP_holds fun b d => by
    intro F I w vals _ _ hpre
    exact absurd (hpre _ rfl).1 (Nat.not_lt_zero _)
  | k + 1 => conP_holds fun b d => by
    rcases (show ∃ w : ByteArray, w = b from ⟨_, rfl⟩) with ⟨b, rfl⟩
    rcases (show ∃ w : Int, w = d from ⟨_, rfl⟩) with ⟨d, rfl⟩
    refine fun_meets1 (AllH.tok (.cons tkN1_holds (by kernel_rfl) (.cons (one_of k (many_lt k)) (by kernel_rfl) .nil))) [.as, .as, .as, .row .attr, .as, .row .node, .row .node, .as, .as] (lsMany k) (by kernel_rfl) (by kernel_rfl) (many_sum k) fun hpre => Eq.mpr (vcManyF k b d _) ?_
    obtain ⟨p1, p2, p3⟩ : (d + 2).toNat < k + 1 ∧ -1 ≤ d ∧ d ≤ 40 := hpre _ rfl
    have fin : ∀ l r e, mR3 d b = (l, r, e) → [gotOf zN8 l r e] = compsOf (gotOf zN8 (mR3 d b).1 (mR3 d b).2.1 (mR3 d b).2.2) := fun l r e h => by rw [h]; rfl
    have neg : d < 0 → mR3 d b = ([], ⟨#[]⟩, true) := fun h => mR3_bad d (by rw [show (d + 1).toNat = 0 by omega]; rfl)
    have bad : tkE b ≠ 0 ∨ tkN b > 300 → mR3 d b = ([], ⟨#[]⟩, true) := fun h => by
      rcases Int.lt_or_le d 0 with h' | h'
      · exact neg h'
      · rw [mR3_step h', if_pos h]
    refine ⟨fun g1 => qfin rfl (fin _ _ _ (bad (.inl (by simpa using g1)))) rfl rfl, fun g1 => ⟨fun g2 => qfin rfl (fin _ _ _ (bad (.inr (of_decide_eq_true g2)))) rfl rfl, fun g2 => ⟨fun g3 => qfin rfl (fin _ _ _ (neg (of_decide_eq_true g3))) rfl rfl, fun g3 => ?_⟩⟩⟩
    have g1 : tkE b = 0 := by simpa using g1
    have g2 : ¬ tkN b > 300 := of_decide_eq_false g2
    have g3 := of_decide_eq_false g3
    have hst := mR3_step (d := d) (by omega) (b := b)
    rw [if_neg (show ¬ (tkE b ≠ 0 ∨ tkN b > 300) from fun h => h.elim (fun h => h g1) g2)] at hst
    have hn : 0 ≤ tkN b := by unfold tkN; split <;> omega
    refine Rq.mk ⟨rfl, hn, by omega, by omega, by omega, by omega⟩ ⟨fun q => ⟨fun q2 => qfin rfl ?_ rfl rfl, fun q2 => qfin rfl (fin _ _ _ (hst.trans (if_pos q))) rfl rfl⟩, fun q => ⟨fun _ => qfin rfl (fin _ _ _ (hst.trans (if_neg (by rw [q]; decide)))) rfl rfl, fun _ => qfin rfl (fin _ _ _ (hst.trans (if_neg (by rw [q]; decide)))) rfl rfl⟩⟩
    have q3 := List.eq_nil_of_length_eq_zero (of_decide_eq_true q2)
    have := fin _ _ _ (hst.trans (if_pos q))
    rw [q3] at this
    exact this
theorem rd8_holds : Holds 71 conRd8 := conP_holds fun b => by
  rcases (show ∃ w : ByteArray, w = b from ⟨_, rfl⟩) with ⟨b, rfl⟩
  refine fun_meets0 (AllH.tok (.cons (many_lt 43) (by kernel_rfl) (.cons ck8_holds (by kernel_rfl) .nil))) [.row .node, .as] (by kernel_rfl) (by kernel_rfl) fun hpre => Eq.mpr (vcRd8F b _) ?_
  have hf : r8Pre b := hpre _ rfl
  have no : r8OK b = false → FinQ { pre := some (r8Pre b), res := .tup [.row .node (r8L b), .int .i64 (r8E b)] } [AV.row Ty.node [], AV.int .i64 4] [] [] := fun h => by
    refine qfin rfl ?_ rfl rfl
    show _ = [AV.row Ty.node (r8L b), AV.int .i64 (r8E b)]
    unfold r8L r8E; rw [h]; rfl
  refine Rq.mk ⟨by decide, by decide, by decide⟩ ⟨fun h => no ?_, fun h => ⟨fun h1 => no ?_, fun h1 => Rq.mk (hf h ?_) ⟨fun h2 => no ?_, fun h2 => ?_⟩⟩⟩
  · unfold r8OK; rw [h]; rfl
  · have h1 : eqS (mR3 40 b).2.1 ⟨#[]⟩ = false := by rw [← Bool.not_eq_true']; exact h1
    unfold r8OK; rw [h1, Bool.and_false]; rfl
  · have h1 : eqS (mR3 40 b).2.1 ⟨#[]⟩ = true := by rw [← Bool.not_eq_false']; exact h1
    exact eqS_nil.1 h1
  · have h2 : (checkS (mR3 40 b).1 == 0) = false := by simpa using h2
    unfold r8OK; rw [h2, Bool.and_false]
  · have h1 : eqS (mR3 40 b).2.1 ⟨#[]⟩ = true := by rw [← Bool.not_eq_false']; exact h1
    have h2 : (checkS (mR3 40 b).1 == 0) = true := by simpa using h2
    have ok : r8OK b = true := by unfold r8OK; rw [h, h1, h2]; rfl
    refine qfin rfl ?_ rfl rfl
    show _ = [AV.row Ty.node (r8L b), AV.int .i64 (r8E b)]
    unfold r8L r8E; rw [ok]; rfl
end Go.Proofs.YtnhipiedjekkpaaGreatDoor.AX
end
section
namespace Go.Proofs.YtnhipiedjekkpaaGreatDoor.AXP
open Go Go.Proofs.YtnhipiedjekkpaaGreatDoor.AX
def stpR : Nat → List UInt8 → List UInt8
  | 0, b => b
  | c + 1, b => match takeT b with
    | none => b
    | some (_, r) => stpR c r
def wy : Nat → ByteArray → List Int × ByteArray × Bool
  | 0, b => ([], b, true)
  | c + 1, b => if tkE b ≠ 0 then ([], b, false) else (tkN b :: (wy c (tkR b)).1, (wy c (tkR b)).2.1, (wy c (tkR b)).2.2)
def zQ : Ed × ByteArray × Bool := (⟨0, [], zN, zN⟩, ⟨#[]⟩, true)
def qBd (k : Int) (w : List Int) (r : ByteArray) : Ed × ByteArray × Bool :=
  if k = 1 ∨ k = 2 then
    if ttE r ≠ 0 ∨ rdE (ttS r) ≠ 0 ∨ ¬ (rdL (ttS r)).length = 1 then zQ
    else (if k = 1 then ⟨k, w, zN, rd .node (rdL (ttS r)) 0⟩ else ⟨k, w, rd .node (rdL (ttS r)) 0, zN⟩, ttR r, false)
  else if k = 3 then
    if tlE r ≠ 0 ∨ tlE (tlR r) ≠ 0 ∨ (tlL r).length % 2 > 0 ∨ (tlL (tlR r)).length % 2 > 0 then zQ
    else (⟨k, w, { zN with attrs := prs (tlL r) }, { zN with attrs := prs (tlL (tlR r)) }⟩, tlR (tlR r), false)
  else if k = 4 then
    if ttE r ≠ 0 ∨ ttE (ttR r) ≠ 0 then zQ
    else (⟨k, w, { zN with text := ttS r }, { zN with text := ttS (ttR r) }⟩, ttR (ttR r), false)
  else zQ
def qEd (b : ByteArray) : Ed × ByteArray × Bool :=
  if tkE b ≠ 0 ∨ tkE (tkR b) ≠ 0 ∨ tkN (tkR b) > 41 then zQ
  else if (wy (tkN (tkR b)).toNat (tkR (tkR b))).2.2 = true then qBd (tkN b) (wy (tkN (tkR b)).toNat (tkR (tkR b))).1 (wy (tkN (tkR b)).toNat (tkR (tkR b))).2.1
  else zQ
def qEds : Nat → ByteArray → List Ed × ByteArray × Bool
  | 0, b => ([], b, true)
  | c + 1, b => if (qEd b).2.2 = true then ([], b, false) else ((qEd b).1 :: (qEds c (qEd b).2.1).1, (qEds c (qEd b).2.1).2.1, (qEds c (qEd b).2.1).2.2)
end Go.Proofs.YtnhipiedjekkpaaGreatDoor.AXP
namespace Go.Proofs.YtnhipiedjekkpaaGreatDoor.AX
open Go AXP
noncomputable def cxTkL1 : Cx := cxT (tabLook [(69, conNu1), (70, conTkT1)])
def lsTkL1 : LS where
  keep := [(2, .as), (3, .as), (4, .as), (5, .as)]
  left := [(2, .as), (4, .as)]
  sum := fun vs bs K => match vs, bs with
    | [.ptr 0 0, .ptr 1 0, .ptr 2 0, .int .i64 i], [.box [.int .i64 z0, .str z1, .nil, .str z3, .int .i64 z4], .box [.int .i64 n, .int .i64 e], .box [.int .i64 o0, .str o1, .nil, .str r, .int .i64 o4]] => Rq (i = 0 ∧ 0 ≤ n ∧ n ≤ 1000)
      (Br (txsOK n.toNat (kb r))
        (Br ((txsV n.toNat (kb r)).length == 0)
          (K (.exit 0) [.ptr 0 0, .ptr 1 0] [.box [.int .i64 z0, .str z1, .nil, .str z3, .int .i64 z4], .box [.int .i64 o0, .str o1, .nil, .str (txsR n.toNat (kb r)), .int .i64 o4]])
          (K (.exit 0) [.ptr 0 0, .ptr 1 0] [.box [.int .i64 z0, .str z1, .nil, .str z3, .int .i64 z4], .box [.int .i64 o0, .str o1, .own 2 0, .str (txsR n.toNat (kb r)), .int .i64 o4], .rowb 0 .str (txsV n.toNat (kb r))]))
        (Br ((stpT n.toNat (kb r)).length == 0)
          (K .ret [.ptr 0 0, .ptr 1 0] [.box [.int .i64 0, .str ⟨#[]⟩, .nil, .str ⟨#[]⟩, .int .i64 4], .box [.int .i64 o0, .str o1, .nil, .str (bk (stpR n.toNat (kb r))), .int .i64 o4]])
          (K .ret [.ptr 0 0, .ptr 1 0] [.box [.int .i64 0, .str ⟨#[]⟩, .nil, .str ⟨#[]⟩, .int .i64 4], .box [.int .i64 o0, .str o1, .own 2 0, .str (bk (stpR n.toNat (kb r))), .int .i64 o4], .rowb 0 .str (stpT n.toNat (kb r))])))
    | _, _ => False
def conTkL1 : Con := conP [.str] fun (b : ByteArray) => { res := .agg [.int .i64 0, .str ⟨#[]⟩, .row .str (tlL b), .str (tlR b), .int .i64 (tlE b)] }
def lsPrs : LS where
  keep := [(3, .own .attr), (0, .as), (4, .as)]
  left := [(3, .own .attr)]
  sum := fun vs bs K => match vs, bs with
    | [.own 0 0, .row .str l, .int .i64 i], [.rowb 0 .attr o] => Rq (i = 0 ∧ o.length = 0 ∧ l.length ≤ 1000) (K (.exit 0) [.own 0 0] [.rowb 0 .attr (prs l)])
    | _, _ => False
def conPrs : Con := conP [.row .str] fun (l : List ByteArray) => { pre := some (l.length ≤ 1000), res := .row .attr (prs l) }
def conRd8N : Con := conP [.str] fun (b : ByteArray) => { pre := some (b.size ≤ 900000), res := .tup [.row .node (rdL b), .int .i64 (rdE b)] }
noncomputable def cxTake : Cx := cxT (tabLook [(34, conTkN1), (70, conTkT1), (72, conTkL1), (71, conRd8N), (73, conPrs)])
noncomputable def lsTake : LS where
  keep := [(2, .as), (3, .as), (4, .as), (5, .as), (6, .as)]
  left := [(2, .as), (3, .as), (5, .as)]
  sum := fun vs bs K => match vs, bs with
    | [.ptr 0 0, .ptr 1 0, .ptr 2 0, .ptr 3 0, .int .i64 i], [.box [.int .i64 z0, .nil, .int .i64 z1, .int .i64 z2, .str z3, .nil, .str z4, .nil, .int .i64 z5, .int .i64 z6, .str z7, .nil, .str z8, .nil, .str z9, .bool z10], .box [.int .i64 w0, .str w1, .row .str w2, .str w3, .int .i64 w4], .box [.int .i64 c, .str c1, .row .str c2, .str c3, .int .i64 c4], .box [.int .i64 k, .nil, .int .i64 o0, .int .i64 o1, .str o2, .nil, .str o4, .nil, .int .i64 n0, .int .i64 n1, .str n2, .nil, .str n4, .nil, .str b, .bool e]] => Rq (i = 0 ∧ 0 ≤ c ∧ c ≤ 41)
      (Br (wy c.toNat b).2.2
        (Br ((wy c.toNat b).1.length == 0)
          (K (.exit 0) [.ptr 0 0, .ptr 1 0, .ptr 2 0] [.box [.int .i64 z0, .nil, .int .i64 z1, .int .i64 z2, .str z3, .nil, .str z4, .nil, .int .i64 z5, .int .i64 z6, .str z7, .nil, .str z8, .nil, .str z9, .bool z10], .box [.int .i64 w0, .str w1, .row .str w2, .str w3, .int .i64 w4], .box [.int .i64 k, .nil, .int .i64 o0, .int .i64 o1, .str o2, .nil, .str o4, .nil, .int .i64 n0, .int .i64 n1, .str n2, .nil, .str n4, .nil, .str (wy c.toNat b).2.1, .bool e]])
          (K (.exit 0) [.ptr 0 0, .ptr 1 0, .ptr 2 0] [.box [.int .i64 z0, .nil, .int .i64 z1, .int .i64 z2, .str z3, .nil, .str z4, .nil, .int .i64 z5, .int .i64 z6, .str z7, .nil, .str z8, .nil, .str z9, .bool z10], .box [.int .i64 w0, .str w1, .row .str w2, .str w3, .int .i64 w4], .box [.int .i64 k, .own 3 0, .int .i64 o0, .int .i64 o1, .str o2, .nil, .str o4, .nil, .int .i64 n0, .int .i64 n1, .str n2, .nil, .str n4, .nil, .str (wy c.toNat b).2.1, .bool e], .rowb 0 .int (wy c.toNat b).1]))
        (Br ((wy c.toNat b).1.length == 0)
          (K .ret [.ptr 0 0, .ptr 1 0, .ptr 2 0] [.box [.int .i64 0, .nil, .int .i64 0, .int .i64 0, .str ⟨#[]⟩, .nil, .str ⟨#[]⟩, .nil, .int .i64 0, .int .i64 0, .str ⟨#[]⟩, .nil, .str ⟨#[]⟩, .nil, .str ⟨#[]⟩, .bool true], .box [.int .i64 w0, .str w1, .row .str w2, .str w3, .int .i64 w4], .box [.int .i64 k, .nil, .int .i64 o0, .int .i64 o1, .str o2, .nil, .str o4, .nil, .int .i64 n0, .int .i64 n1, .str n2, .nil, .str n4, .nil, .str (wy c.toNat b).2.1, .bool e]])
          (K .ret [.ptr 0 0, .ptr 1 0, .ptr 2 0] [.box [.int .i64 0, .nil, .int .i64 0, .int .i64 0, .str ⟨#[]⟩, .nil, .str ⟨#[]⟩, .nil, .int .i64 0, .int .i64 0, .str ⟨#[]⟩, .nil, .str ⟨#[]⟩, .nil, .str ⟨#[]⟩, .bool true], .box [.int .i64 w0, .str w1, .row .str w2, .str w3, .int .i64 w4], .box [.int .i64 k, .own 3 0, .int .i64 o0, .int .i64 o1, .str o2, .nil, .str o4, .nil, .int .i64 n0, .int .i64 n1, .str n2, .nil, .str n4, .nil, .str (wy c.toNat b).2.1, .bool e], .rowb 0 .int (wy c.toNat b).1])))
    | _, _ => False
def conTake : Con := conP [.str] fun (b : ByteArray) => { res := .agg (editL (qEd b).1 ++ [.str (qEd b).2.1, .bool (qEd b).2.2]) }
noncomputable def cxQRd : Cx := cxT (tabLook [(34, conTkN1), (35, conTake), (14, conC23)])
def lsQRd : LS where
  keep := [(4, .as), (5, .as), (6, .own .redit), (7, .as)]
  left := [(5, .as), (6, .own .redit), (2, .as), (3, .as)]
  sum := fun vs bs K => match vs, bs with
    | [.ptr 0 0, .str r, .own 1 0, .int .i64 i], [.box [.int .i64 n, .str s1, .row .str s2, .str s3, .int .i64 s4], .rowb 0 .redit o] => Rq (i = 0 ∧ o.length = 0 ∧ 0 ≤ n ∧ n ≤ 400)
      (Br (qEds n.toNat r).2.2 (K (.exit 0) [.str (qEds n.toNat r).2.1, .own 0 0, .any, .any] [.rowb 0 .redit (qEds n.toNat r).1])
        (K .ret [.str (qEds n.toNat r).2.1, .own 0 0, .nil, .int .i64 4] [.rowb 0 .redit (qEds n.toNat r).1]))
    | _, _ => False
def conQRd : Con := conP [.str] fun (b : ByteArray) => { res := .tup [.row .redit (dlL b), .int .i64 (dlE b)] }
noncomputable def cxSmQ : Cx := cxT (tabLook [(36, conIts), (37, conNode')])
def lsSmQ : LS where
  keep := [(0, .as), (1, .as), (7, .as), (8, .as), (9, .as)]
  left := [(0, .as), (1, .as), (4, .as)]
  sum := fun vs bs K => match vs, bs with
    | [.row .redit a, .row .redit b, .row .redit c, .int .i64 m, .int .i64 i], [] => Rq (c = a ∧ m = a.length ∧ i = 0 ∧ a.length ≤ maxSl) (Br (beg eqEd a b) (K (.exit 0) [.row .redit a, .row .redit b, .any] []) (K .ret [.row .redit a, .row .redit b, .bool false] []))
    | _, _ => False
def conSmQ : Con := conP [.row .redit, .row .redit] fun (a b : List Ed) => { res := .bool (eql eqEd a b) }
noncomputable def cxRdD : Cx := cxT (tabLook [(8, conEmp), (15, conDRead), (16, conQRd), (12, conRef23), (17, conSmQ)])
def conDeltaReads : Con := conP [.str] fun (_ : ByteArray) => { res := .bool true }
end Go.Proofs.YtnhipiedjekkpaaGreatDoor.AX
end
section
namespace Go.Proofs.YtnhipiedjekkpaaGreatDoor.AX
open Go AXP
set_option maxRecDepth 100000
theorem vcTkL1B0 (i z0 z4 n e o0 o4 : Int) (z1 z3 o1 r : ByteArray) (K : Ex → List AV → List Blk → Prop) : (bodyA cxTkL1 (LL Tryz.f72 [lsTkL1]) Tryz.f72.ntmps (loopAt Tryz.f72 0).1 (loopAt Tryz.f72 0).2 lsTkL1.keep lsTkL1.left K [.ptr 0 0, .ptr 1 0, .ptr 2 0, .int .i64 i] [.box [.int .i64 z0, .str z1, .nil, .str z3, .int .i64 z4], .box [.int .i64 n, .int .i64 e], .box [.int .i64 o0, .str o1, .nil, .str r, .int .i64 o4]]) = (
Br (decide (i < n))
 (Br (ttE r != (0 : Int))
 (K Ex.ret [AV.ptr (0 : Nat) (0 : Nat), AV.ptr ((0 : Nat) + (1 : Nat)) (0 : Nat)]
 [Blk.box
 [AV.int IntKind.i64 (0 : Int), AV.str (ByteArray.mk (Array.mk [])), AV.nil,
 AV.str (ByteArray.mk (Array.mk [])), AV.int IntKind.i64 (4 : Int)],
 Blk.box [AV.int IntKind.i64 o0, AV.str o1, AV.nil, AV.str r, AV.int IntKind.i64 o4]])
 (Rq ([ttS r].length * (16 : Nat) ≤ maxSl)
 (K Ex.norm
 [AV.ptr (0 : Nat) (0 : Nat), AV.ptr ((0 : Nat) + (1 : Nat)) (0 : Nat),
 AV.ptr ((0 : Nat) + (1 : Nat) + (1 : Nat)) (0 : Nat), AV.int IntKind.i64 (IntKind.i64.wrap (i + (1 : Int)))]
 [Blk.box [AV.int IntKind.i64 z0, AV.str z1, AV.nil, AV.str z3, AV.int IntKind.i64 z4],
 Blk.box [AV.int IntKind.i64 n, AV.int IntKind.i64 e],
 Blk.box
 [AV.int IntKind.i64 o0, AV.str o1, AV.own ((0 : Nat) + (1 : Nat) + (1 : Nat) + (1 : Nat)) (0 : Nat),
 AV.str (ttR r), AV.int IntKind.i64 o4],
 Blk.rowb (0 : Nat) Ty.str [ttS r]])))
 (K (Ex.exit (0 : Nat)) [AV.ptr (0 : Nat) (0 : Nat), AV.ptr ((0 : Nat) + (1 : Nat)) (0 : Nat)]
 [Blk.box [AV.int IntKind.i64 z0, AV.str z1, AV.nil, AV.str z3, AV.int IntKind.i64 z4],
 Blk.box [AV.int IntKind.i64 o0, AV.str o1, AV.nil, AV.str r, AV.int IntKind.i64 o4]])) := by kernel_rfl
theorem vcTkL1B1 (i z0 z4 n e o0 o4 : Int) (z1 z3 o1 r : ByteArray) (l : List ByteArray) (K : Ex → List AV → List Blk → Prop) : (bodyA cxTkL1 (LL Tryz.f72 [lsTkL1]) Tryz.f72.ntmps (loopAt Tryz.f72 0).1 (loopAt Tryz.f72 0).2 lsTkL1.keep lsTkL1.left K [.ptr 0 0, .ptr 1 0, .ptr 2 0, .int .i64 i] [.box [.int .i64 z0, .str z1, .nil, .str z3, .int .i64 z4], .box [.int .i64 n, .int .i64 e], .box [.int .i64 o0, .str o1, .own 3 0, .str r, .int .i64 o4], .rowb 0 .str l]) = (
Br (decide (i < n))
 (Br (ttE r != (0 : Int))
 (K Ex.ret [AV.ptr (0 : Nat) (0 : Nat), AV.ptr ((0 : Nat) + (1 : Nat)) (0 : Nat)]
 [Blk.box
 [AV.int IntKind.i64 (0 : Int), AV.str (ByteArray.mk (Array.mk [])), AV.nil,
 AV.str (ByteArray.mk (Array.mk [])), AV.int IntKind.i64 (4 : Int)],
 Blk.box
 [AV.int IntKind.i64 o0, AV.str o1, AV.own ((0 : Nat) + (1 : Nat) + (1 : Nat)) (0 : Nat), AV.str r,
 AV.int IntKind.i64 o4],
 Blk.rowb (0 : Nat) Ty.str l])
 (Rq ((l.length + [ttS r].length) * (16 : Nat) ≤ maxSl)
 (K Ex.norm
 [AV.ptr (0 : Nat) (0 : Nat), AV.ptr ((0 : Nat) + (1 : Nat)) (0 : Nat),
 AV.ptr ((0 : Nat) + (1 : Nat) + (1 : Nat)) (0 : Nat), AV.int IntKind.i64 (IntKind.i64.wrap (i + (1 : Int)))]
 [Blk.box [AV.int IntKind.i64 z0, AV.str z1, AV.nil, AV.str z3, AV.int IntKind.i64 z4],
 Blk.box [AV.int IntKind.i64 n, AV.int IntKind.i64 e],
 Blk.box
 [AV.int IntKind.i64 o0, AV.str o1, AV.own ((0 : Nat) + (1 : Nat) + (1 : Nat) + (1 : Nat)) (0 : Nat),
 AV.str (ttR r), AV.int IntKind.i64 o4],
 Blk.rowb (0 : Nat) Ty.str (l ++ [ttS r])])))
 (K (Ex.exit (0 : Nat)) [AV.ptr (0 : Nat) (0 : Nat), AV.ptr ((0 : Nat) + (1 : Nat)) (0 : Nat)]
 [Blk.box [AV.int IntKind.i64 z0, AV.str z1, AV.nil, AV.str z3, AV.int IntKind.i64 z4],
 Blk.box
 [AV.int IntKind.i64 o0, AV.str o1, AV.own ((0 : Nat) + (1 : Nat) + (1 : Nat)) (0 : Nat), AV.str r,
 AV.int IntKind.i64 o4],
 Blk.rowb (0 : Nat) Ty.str l])) := by kernel_rfl
theorem vcTkL1F (b : ByteArray) (Q : List AV → List Blk → List Blk → Prop) : (funA cxTkL1 (LL Tryz.f72 [lsTkL1]) Tryz.f72 [.str b] [] [.as, .as, .row .str, .as, .as] Q) = (
Rq ((0 : Int) = (0 : Int))
 (Br (decide (tkEnd b < (0 : Int)))
 (Q
 [AV.agg
 [AV.int IntKind.i64 (0 : Int), AV.str (ByteArray.mk (Array.mk [])), AV.row Ty.str [],
 AV.str (ByteArray.mk (Array.mk [])), AV.int IntKind.i64 (4 : Int)]]
 [] [])
 (Br (decide (tkN b > (1000 : Int)))
 (Q
 [AV.agg
 [AV.int IntKind.i64 (0 : Int), AV.str (ByteArray.mk (Array.mk [])), AV.row Ty.str [],
 AV.str (ByteArray.mk (Array.mk [])), AV.int IntKind.i64 (4 : Int)]]
 [] [])
 (Rq ((0 : Int) ≤ tkEnd b ∧ tkEnd b ≤ (↑b.size : Int) ∧ (↑b.size : Int) ≤ (↑b.size : Int))
 (Rq ((0 : Int) = (0 : Int) ∧ (0 : Int) ≤ tkN b ∧ tkN b ≤ (1000 : Int))
 (Br (txsOK (tkN b).toNat (kb (b.extract (tkEnd b).toNat (↑b.size : Int).toNat)))
 (Br ((txsV (tkN b).toNat (kb (b.extract (tkEnd b).toNat (↑b.size : Int).toNat))).length == (0 : Nat))
 (Q
 [AV.agg
 [AV.int IntKind.i64 (0 : Int), AV.str (ByteArray.mk (Array.mk [])), AV.row Ty.str [],
 AV.str (txsR (tkN b).toNat (kb (b.extract (tkEnd b).toNat (↑b.size : Int).toNat))),
 AV.int IntKind.i64 (0 : Int)]]
 [] [])
 (Q
 [AV.agg
 [AV.int IntKind.i64 (0 : Int), AV.str (ByteArray.mk (Array.mk [])),
 AV.row Ty.str (txsV (tkN b).toNat (kb (b.extract (tkEnd b).toNat (↑b.size : Int).toNat))),
 AV.str (txsR (tkN b).toNat (kb (b.extract (tkEnd b).toNat (↑b.size : Int).toNat))),
 AV.int IntKind.i64 (0 : Int)]]
 [] []))
 (Br ((stpT (tkN b).toNat (kb (b.extract (tkEnd b).toNat (↑b.size : Int).toNat))).length == (0 : Nat))
 (Q
 [AV.agg
 [AV.int IntKind.i64 (0 : Int), AV.str (ByteArray.mk (Array.mk [])), AV.row Ty.str [],
 AV.str (ByteArray.mk (Array.mk [])), AV.int IntKind.i64 (4 : Int)]]
 [] [])
 (Q
 [AV.agg
 [AV.int IntKind.i64 (0 : Int), AV.str (ByteArray.mk (Array.mk [])), AV.row Ty.str [],
 AV.str (ByteArray.mk (Array.mk [])), AV.int IntKind.i64 (4 : Int)]]
 [] [])))))))) := by kernel_rfl
theorem vcPrsB (o : List At) (l : List ByteArray) (i : Int) (K : Ex → List AV → List Blk → Prop) : (bodyA cx0 (LL Tryz.f73 [lsPrs]) Tryz.f73.ntmps (loopAt Tryz.f73 0).1 (loopAt Tryz.f73 0).2 lsPrs.keep lsPrs.left K [.own 0 0, .row .str l, .int .i64 i] [.rowb 0 .attr o]) = (
Gv (l.length ≤ maxSl)
 (Br (decide (IntKind.i64.wrap (i + (1 : Int)) < (↑l.length : Int)))
 (Rq ((0 : Int) ≤ i ∧ i < (↑l.length : Int))
 (Rq ((0 : Int) ≤ IntKind.i64.wrap (i + (1 : Int)) ∧ IntKind.i64.wrap (i + (1 : Int)) < (↑l.length : Int))
 (Rq
 ((o.length + [At.mk (rd Ty.str l i) (rd Ty.str l (IntKind.i64.wrap (i + (1 : Int))))].length) * (32 : Nat) ≤
 maxSl)
 (K Ex.norm
 [AV.own (0 : Nat) (0 : Nat), AV.row Ty.str l, AV.int IntKind.i64 (IntKind.i64.wrap (i + (2 : Int)))]
 [Blk.rowb (0 : Nat) Ty.attr
 (o ++ [At.mk (rd Ty.str l i) (rd Ty.str l (IntKind.i64.wrap (i + (1 : Int))))])]))))
 (K (Ex.exit (0 : Nat)) [AV.own (0 : Nat) (0 : Nat)] [Blk.rowb (0 : Nat) Ty.attr o]))) := by kernel_rfl
theorem vcPrsF (l : List ByteArray) (Q : List AV → List Blk → List Blk → Prop) : (funA cx0 (LL Tryz.f73 [lsPrs]) Tryz.f73 [.row .str l] [] [.row .attr] Q) = (
Rq ((0 : Int) = (0 : Int) ∧ (0 : Nat) = (0 : Nat) ∧ l.length ≤ (1000 : Nat)) (Q [AV.row Ty.attr (prs l)] [] [])) := by kernel_rfl
theorem vcTakeB0 (i z0 z1 z2 z5 z6 w0 w4 c c4 k o0 o1 n0 n1 : Int) (z3 z4 z7 z8 z9 w1 w3 c1 c3 o2 o4 n2 n4 b : ByteArray) (w2 c2 : List ByteArray) (z10 e : Bool) (K : Ex → List AV → List Blk → Prop) : (bodyA cxTake (LL Tryz.f35 [lsTake]) Tryz.f35.ntmps (loopAt Tryz.f35 0).1 (loopAt Tryz.f35 0).2 lsTake.keep lsTake.left K [.ptr 0 0, .ptr 1 0, .ptr 2 0, .ptr 3 0, .int .i64 i] [.box [.int .i64 z0, .nil, .int .i64 z1, .int .i64 z2, .str z3, .nil, .str z4, .nil, .int .i64 z5, .int .i64 z6, .str z7, .nil, .str z8, .nil, .str z9, .bool z10], .box [.int .i64 w0, .str w1, .row .str w2, .str w3, .int .i64 w4], .box [.int .i64 c, .str c1, .row .str c2, .str c3, .int .i64 c4], .box [.int .i64 k, .nil, .int .i64 o0, .int .i64 o1, .str o2, .nil, .str o4, .nil, .int .i64 n0, .int .i64 n1, .str n2, .nil, .str n4, .nil, .str b, .bool e]]) = (
Br (decide (i < c))
 (Br (tkE b != (0 : Int))
 (K Ex.ret
 [AV.ptr (0 : Nat) (0 : Nat), AV.ptr ((0 : Nat) + (1 : Nat)) (0 : Nat),
 AV.ptr ((0 : Nat) + (1 : Nat) + (1 : Nat)) (0 : Nat)]
 [Blk.box
 [AV.int IntKind.i64 (0 : Int), AV.nil, AV.int IntKind.i64 (0 : Int), AV.int IntKind.i64 (0 : Int),
 AV.str (ByteArray.mk (Array.mk [])), AV.nil, AV.str (ByteArray.mk (Array.mk [])), AV.nil,
 AV.int IntKind.i64 (0 : Int), AV.int IntKind.i64 (0 : Int), AV.str (ByteArray.mk (Array.mk [])), AV.nil,
 AV.str (ByteArray.mk (Array.mk [])), AV.nil, AV.str (ByteArray.mk (Array.mk [])), AV.bool true],
 Blk.box [AV.int IntKind.i64 w0, AV.str w1, AV.row Ty.str w2, AV.str w3, AV.int IntKind.i64 w4],
 Blk.box
 [AV.int IntKind.i64 k, AV.nil, AV.int IntKind.i64 o0, AV.int IntKind.i64 o1, AV.str o2, AV.nil, AV.str o4,
 AV.nil, AV.int IntKind.i64 n0, AV.int IntKind.i64 n1, AV.str n2, AV.nil, AV.str n4, AV.nil, AV.str b,
 AV.bool e]])
 (Rq ([tkN b].length * (8 : Nat) ≤ maxSl)
 (K Ex.norm
 [AV.ptr (0 : Nat) (0 : Nat), AV.ptr ((0 : Nat) + (1 : Nat)) (0 : Nat),
 AV.ptr ((0 : Nat) + (1 : Nat) + (1 : Nat)) (0 : Nat),
 AV.ptr ((0 : Nat) + (1 : Nat) + (1 : Nat) + (1 : Nat)) (0 : Nat),
 AV.int IntKind.i64 (IntKind.i64.wrap (i + (1 : Int)))]
 [Blk.box
 [AV.int IntKind.i64 z0, AV.nil, AV.int IntKind.i64 z1, AV.int IntKind.i64 z2, AV.str z3, AV.nil, AV.str z4,
 AV.nil, AV.int IntKind.i64 z5, AV.int IntKind.i64 z6, AV.str z7, AV.nil, AV.str z8, AV.nil, AV.str z9,
 AV.bool z10],
 Blk.box [AV.int IntKind.i64 w0, AV.str w1, AV.row Ty.str w2, AV.str w3, AV.int IntKind.i64 w4],
 Blk.box [AV.int IntKind.i64 c, AV.str c1, AV.row Ty.str c2, AV.str c3, AV.int IntKind.i64 c4],
 Blk.box
 [AV.int IntKind.i64 k, AV.own ((0 : Nat) + (1 : Nat) + (1 : Nat) + (1 : Nat) + (1 : Nat)) (0 : Nat),
 AV.int IntKind.i64 o0, AV.int IntKind.i64 o1, AV.str o2, AV.nil, AV.str o4, AV.nil, AV.int IntKind.i64 n0,
 AV.int IntKind.i64 n1, AV.str n2, AV.nil, AV.str n4, AV.nil, AV.str (tkR b), AV.bool e],
 Blk.rowb (0 : Nat) Ty.int [tkN b]])))
 (K (Ex.exit (0 : Nat))
 [AV.ptr (0 : Nat) (0 : Nat), AV.ptr ((0 : Nat) + (1 : Nat)) (0 : Nat),
 AV.ptr ((0 : Nat) + (1 : Nat) + (1 : Nat)) (0 : Nat)]
 [Blk.box
 [AV.int IntKind.i64 z0, AV.nil, AV.int IntKind.i64 z1, AV.int IntKind.i64 z2, AV.str z3, AV.nil, AV.str z4,
 AV.nil, AV.int IntKind.i64 z5, AV.int IntKind.i64 z6, AV.str z7, AV.nil, AV.str z8, AV.nil, AV.str z9,
 AV.bool z10],
 Blk.box [AV.int IntKind.i64 w0, AV.str w1, AV.row Ty.str w2, AV.str w3, AV.int IntKind.i64 w4],
 Blk.box
 [AV.int IntKind.i64 k, AV.nil, AV.int IntKind.i64 o0, AV.int IntKind.i64 o1, AV.str o2, AV.nil, AV.str o4,
 AV.nil, AV.int IntKind.i64 n0, AV.int IntKind.i64 n1, AV.str n2, AV.nil, AV.str n4, AV.nil, AV.str b,
 AV.bool e]])) := by kernel_rfl
theorem vcTakeB1 (i z0 z1 z2 z5 z6 w0 w4 c c4 k o0 o1 n0 n1 : Int) (z3 z4 z7 z8 z9 w1 w3 c1 c3 o2 o4 n2 n4 b : ByteArray) (w2 c2 : List ByteArray) (z10 e : Bool) (v : List Int) (K : Ex → List AV → List Blk → Prop) : (bodyA cxTake (LL Tryz.f35 [lsTake]) Tryz.f35.ntmps (loopAt Tryz.f35 0).1 (loopAt Tryz.f35 0).2 lsTake.keep lsTake.left K [.ptr 0 0, .ptr 1 0, .ptr 2 0, .ptr 3 0, .int .i64 i] [.box [.int .i64 z0, .nil, .int .i64 z1, .int .i64 z2, .str z3, .nil, .str z4, .nil, .int .i64 z5, .int .i64 z6, .str z7, .nil, .str z8, .nil, .str z9, .bool z10], .box [.int .i64 w0, .str w1, .row .str w2, .str w3, .int .i64 w4], .box [.int .i64 c, .str c1, .row .str c2, .str c3, .int .i64 c4], .box [.int .i64 k, .own 4 0, .int .i64 o0, .int .i64 o1, .str o2, .nil, .str o4, .nil, .int .i64 n0, .int .i64 n1, .str n2, .nil, .str n4, .nil, .str b, .bool e], .rowb 0 .int v]) = (
Br (decide (i < c))
 (Br (tkE b != (0 : Int))
 (K Ex.ret
 [AV.ptr (0 : Nat) (0 : Nat), AV.ptr ((0 : Nat) + (1 : Nat)) (0 : Nat),
 AV.ptr ((0 : Nat) + (1 : Nat) + (1 : Nat)) (0 : Nat)]
 [Blk.box
 [AV.int IntKind.i64 (0 : Int), AV.nil, AV.int IntKind.i64 (0 : Int), AV.int IntKind.i64 (0 : Int),
 AV.str (ByteArray.mk (Array.mk [])), AV.nil, AV.str (ByteArray.mk (Array.mk [])), AV.nil,
 AV.int IntKind.i64 (0 : Int), AV.int IntKind.i64 (0 : Int), AV.str (ByteArray.mk (Array.mk [])), AV.nil,
 AV.str (ByteArray.mk (Array.mk [])), AV.nil, AV.str (ByteArray.mk (Array.mk [])), AV.bool true],
 Blk.box [AV.int IntKind.i64 w0, AV.str w1, AV.row Ty.str w2, AV.str w3, AV.int IntKind.i64 w4],
 Blk.box
 [AV.int IntKind.i64 k, AV.own ((0 : Nat) + (1 : Nat) + (1 : Nat) + (1 : Nat)) (0 : Nat),
 AV.int IntKind.i64 o0, AV.int IntKind.i64 o1, AV.str o2, AV.nil, AV.str o4, AV.nil, AV.int IntKind.i64 n0,
 AV.int IntKind.i64 n1, AV.str n2, AV.nil, AV.str n4, AV.nil, AV.str b, AV.bool e],
 Blk.rowb (0 : Nat) Ty.int v])
 (Rq ((v.length + [tkN b].length) * (8 : Nat) ≤ maxSl)
 (K Ex.norm
 [AV.ptr (0 : Nat) (0 : Nat), AV.ptr ((0 : Nat) + (1 : Nat)) (0 : Nat),
 AV.ptr ((0 : Nat) + (1 : Nat) + (1 : Nat)) (0 : Nat),
 AV.ptr ((0 : Nat) + (1 : Nat) + (1 : Nat) + (1 : Nat)) (0 : Nat),
 AV.int IntKind.i64 (IntKind.i64.wrap (i + (1 : Int)))]
 [Blk.box
 [AV.int IntKind.i64 z0, AV.nil, AV.int IntKind.i64 z1, AV.int IntKind.i64 z2, AV.str z3, AV.nil, AV.str z4,
 AV.nil, AV.int IntKind.i64 z5, AV.int IntKind.i64 z6, AV.str z7, AV.nil, AV.str z8, AV.nil, AV.str z9,
 AV.bool z10],
 Blk.box [AV.int IntKind.i64 w0, AV.str w1, AV.row Ty.str w2, AV.str w3, AV.int IntKind.i64 w4],
 Blk.box [AV.int IntKind.i64 c, AV.str c1, AV.row Ty.str c2, AV.str c3, AV.int IntKind.i64 c4],
 Blk.box
 [AV.int IntKind.i64 k, AV.own ((0 : Nat) + (1 : Nat) + (1 : Nat) + (1 : Nat) + (1 : Nat)) (0 : Nat),
 AV.int IntKind.i64 o0, AV.int IntKind.i64 o1, AV.str o2, AV.nil, AV.str o4, AV.nil, AV.int IntKind.i64 n0,
 AV.int IntKind.i64 n1, AV.str n2, AV.nil, AV.str n4, AV.nil, AV.str (tkR b), AV.bool e],
 Blk.rowb (0 : Nat) Ty.int (v ++ [tkN b])])))
 (K (Ex.exit (0 : Nat))
 [AV.ptr (0 : Nat) (0 : Nat), AV.ptr ((0 : Nat) + (1 : Nat)) (0 : Nat),
 AV.ptr ((0 : Nat) + (1 : Nat) + (1 : Nat)) (0 : Nat)]
 [Blk.box
 [AV.int IntKind.i64 z0, AV.nil, AV.int IntKind.i64 z1, AV.int IntKind.i64 z2, AV.str z3, AV.nil, AV.str z4,
 AV.nil, AV.int IntKind.i64 z5, AV.int IntKind.i64 z6, AV.str z7, AV.nil, AV.str z8, AV.nil, AV.str z9,
 AV.bool z10],
 Blk.box [AV.int IntKind.i64 w0, AV.str w1, AV.row Ty.str w2, AV.str w3, AV.int IntKind.i64 w4],
 Blk.box
 [AV.int IntKind.i64 k, AV.own ((0 : Nat) + (1 : Nat) + (1 : Nat) + (1 : Nat)) (0 : Nat), AV.int IntKind.i64 o0,
 AV.int IntKind.i64 o1, AV.str o2, AV.nil, AV.str o4, AV.nil, AV.int IntKind.i64 n0, AV.int IntKind.i64 n1,
 AV.str n2, AV.nil, AV.str n4, AV.nil, AV.str b, AV.bool e],
 Blk.rowb (0 : Nat) Ty.int v])) := by kernel_rfl
theorem vcTakeF (b : ByteArray) (Q : List AV → List Blk → List Blk → Prop) : (funA cxTake (LL Tryz.f35 [lsTake]) Tryz.f35 [.str b] [] [.as, .row .int, .as, .as, .as, .row .attr, .as, .row .node, .as, .as, .as, .row .attr, .as, .row .node, .as, .as] Q) = (
Br (tkE b != (0 : Int))
 (Q
 [AV.agg
 [AV.int IntKind.i64 (0 : Int), AV.row Ty.int [], AV.int IntKind.i64 (0 : Int), AV.int IntKind.i64 (0 : Int),
 AV.str (ByteArray.mk (Array.mk [])), AV.row Ty.attr [], AV.str (ByteArray.mk (Array.mk [])),
 AV.row Ty.node [], AV.int IntKind.i64 (0 : Int), AV.int IntKind.i64 (0 : Int),
 AV.str (ByteArray.mk (Array.mk [])), AV.row Ty.attr [], AV.str (ByteArray.mk (Array.mk [])),
 AV.row Ty.node [], AV.str (ByteArray.mk (Array.mk [])), AV.bool true]]
 [] [])
 (Br (tkE (tkR b) != (0 : Int))
 (Q
 [AV.agg
 [AV.int IntKind.i64 (0 : Int), AV.row Ty.int [], AV.int IntKind.i64 (0 : Int), AV.int IntKind.i64 (0 : Int),
 AV.str (ByteArray.mk (Array.mk [])), AV.row Ty.attr [], AV.str (ByteArray.mk (Array.mk [])),
 AV.row Ty.node [], AV.int IntKind.i64 (0 : Int), AV.int IntKind.i64 (0 : Int),
 AV.str (ByteArray.mk (Array.mk [])), AV.row Ty.attr [], AV.str (ByteArray.mk (Array.mk [])),
 AV.row Ty.node [], AV.str (ByteArray.mk (Array.mk [])), AV.bool true]]
 [] [])
 (Br (decide (tkN (tkR b) > (41 : Int)))
 (Q
 [AV.agg
 [AV.int IntKind.i64 (0 : Int), AV.row Ty.int [], AV.int IntKind.i64 (0 : Int), AV.int IntKind.i64 (0 : Int),
 AV.str (ByteArray.mk (Array.mk [])), AV.row Ty.attr [], AV.str (ByteArray.mk (Array.mk [])),
 AV.row Ty.node [], AV.int IntKind.i64 (0 : Int), AV.int IntKind.i64 (0 : Int),
 AV.str (ByteArray.mk (Array.mk [])), AV.row Ty.attr [], AV.str (ByteArray.mk (Array.mk [])),
 AV.row Ty.node [], AV.str (ByteArray.mk (Array.mk [])), AV.bool true]]
 [] [])
 (Rq ((0 : Int) = (0 : Int) ∧ (0 : Int) ≤ tkN (tkR b) ∧ tkN (tkR b) ≤ (41 : Int))
 (Br (wy (tkN (tkR b)).toNat (tkR (tkR b))).2.2
 (Br ((wy (tkN (tkR b)).toNat (tkR (tkR b))).1.length == (0 : Nat))
 (Br (tkN b == (1 : Int))
 (Rq ((ttS (wy (tkN (tkR b)).toNat (tkR (tkR b))).2.1).size ≤ (900000 : Nat))
 (Br (ttE (wy (tkN (tkR b)).toNat (tkR (tkR b))).2.1 != (0 : Int))
 (Q
 [AV.agg
 [AV.int IntKind.i64 (0 : Int), AV.row Ty.int [], AV.int IntKind.i64 (0 : Int),
 AV.int IntKind.i64 (0 : Int), AV.str (ByteArray.mk (Array.mk [])), AV.row Ty.attr [],
 AV.str (ByteArray.mk (Array.mk [])), AV.row Ty.node [], AV.int IntKind.i64 (0 : Int),
 AV.int IntKind.i64 (0 : Int), AV.str (ByteArray.mk (Array.mk [])), AV.row Ty.attr [],
 AV.str (ByteArray.mk (Array.mk [])), AV.row Ty.node [], AV.str (ByteArray.mk (Array.mk [])),
 AV.bool true]]
 [] [])
 (Br (rdE (ttS (wy (tkN (tkR b)).toNat (tkR (tkR b))).2.1) != (0 : Int))
 (Q
 [AV.agg
 [AV.int IntKind.i64 (0 : Int), AV.row Ty.int [], AV.int IntKind.i64 (0 : Int),
 AV.int IntKind.i64 (0 : Int), AV.str (ByteArray.mk (Array.mk [])), AV.row Ty.attr [],
 AV.str (ByteArray.mk (Array.mk [])), AV.row Ty.node [], AV.int IntKind.i64 (0 : Int),
 AV.int IntKind.i64 (0 : Int), AV.str (ByteArray.mk (Array.mk [])), AV.row Ty.attr [],
 AV.str (ByteArray.mk (Array.mk [])), AV.row Ty.node [], AV.str (ByteArray.mk (Array.mk [])),
 AV.bool true]]
 [] [])
 (Gv ((rdL (ttS (wy (tkN (tkR b)).toNat (tkR (tkR b))).2.1)).length ≤ maxSl)
 (Br ((↑(rdL (ttS (wy (tkN (tkR b)).toNat (tkR (tkR b))).2.1)).length : Int) != (1 : Int))
 (Q
 [AV.agg
 [AV.int IntKind.i64 (0 : Int), AV.row Ty.int [], AV.int IntKind.i64 (0 : Int),
 AV.int IntKind.i64 (0 : Int), AV.str (ByteArray.mk (Array.mk [])), AV.row Ty.attr [],
 AV.str (ByteArray.mk (Array.mk [])), AV.row Ty.node [], AV.int IntKind.i64 (0 : Int),
 AV.int IntKind.i64 (0 : Int), AV.str (ByteArray.mk (Array.mk [])), AV.row Ty.attr [],
 AV.str (ByteArray.mk (Array.mk [])), AV.row Ty.node [],
 AV.str (ByteArray.mk (Array.mk [])), AV.bool true]]
 [] [])
 (Br (tkN b == (1 : Int))
 (Rq
 ((0 : Int) ≤ (0 : Int) ∧
 (0 : Int) < (↑(rdL (ttS (wy (tkN (tkR b)).toNat (tkR (tkR b))).2.1)).length : Int))
 (Q
 [AV.agg
 [AV.int IntKind.i64 (tkN b), AV.row Ty.int [], AV.int IntKind.i64 (0 : Int),
 AV.int IntKind.i64 (0 : Int), AV.str (ByteArray.mk (Array.mk [])),
 AV.row Ty.attr [], AV.str (ByteArray.mk (Array.mk [])), AV.row Ty.node [],
 AV.int IntKind.i64
 (rd Ty.node (rdL (ttS (wy (tkN (tkR b)).toNat (tkR (tkR b))).2.1)) (0 : Int)).1,
 AV.int IntKind.i64
 (rd Ty.node (rdL (ttS (wy (tkN (tkR b)).toNat (tkR (tkR b))).2.1)) (0 : Int)).2,
 AV.str
 (rd Ty.node (rdL (ttS (wy (tkN (tkR b)).toNat (tkR (tkR b))).2.1)) (0 : Int)).3,
 AV.row Ty.attr
 (rd Ty.node (rdL (ttS (wy (tkN (tkR b)).toNat (tkR (tkR b))).2.1)) (0 : Int)).4,
 AV.str
 (rd Ty.node (rdL (ttS (wy (tkN (tkR b)).toNat (tkR (tkR b))).2.1)) (0 : Int)).5,
 AV.row Ty.node
 (rd Ty.node (rdL (ttS (wy (tkN (tkR b)).toNat (tkR (tkR b))).2.1)) (0 : Int)).6,
 AV.str (ttR (wy (tkN (tkR b)).toNat (tkR (tkR b))).2.1), AV.bool false]]
 [] []))
 (Rq
 ((0 : Int) ≤ (0 : Int) ∧
 (0 : Int) < (↑(rdL (ttS (wy (tkN (tkR b)).toNat (tkR (tkR b))).2.1)).length : Int))
 (Q
 [AV.agg
 [AV.int IntKind.i64 (tkN b), AV.row Ty.int [],
 AV.int IntKind.i64
 (rd Ty.node (rdL (ttS (wy (tkN (tkR b)).toNat (tkR (tkR b))).2.1)) (0 : Int)).1,
 AV.int IntKind.i64
 (rd Ty.node (rdL (ttS (wy (tkN (tkR b)).toNat (tkR (tkR b))).2.1)) (0 : Int)).2,
 AV.str
 (rd Ty.node (rdL (ttS (wy (tkN (tkR b)).toNat (tkR (tkR b))).2.1)) (0 : Int)).3,
 AV.row Ty.attr
 (rd Ty.node (rdL (ttS (wy (tkN (tkR b)).toNat (tkR (tkR b))).2.1)) (0 : Int)).4,
 AV.str
 (rd Ty.node (rdL (ttS (wy (tkN (tkR b)).toNat (tkR (tkR b))).2.1)) (0 : Int)).5,
 AV.row Ty.node
 (rd Ty.node (rdL (ttS (wy (tkN (tkR b)).toNat (tkR (tkR b))).2.1)) (0 : Int)).6,
 AV.int IntKind.i64 (0 : Int), AV.int IntKind.i64 (0 : Int),
 AV.str (ByteArray.mk (Array.mk [])), AV.row Ty.attr [],
 AV.str (ByteArray.mk (Array.mk [])), AV.row Ty.node [],
 AV.str (ttR (wy (tkN (tkR b)).toNat (tkR (tkR b))).2.1), AV.bool false]]
 [] []))))))))
 (Br (tkN b == (2 : Int))
 (Rq ((ttS (wy (tkN (tkR b)).toNat (tkR (tkR b))).2.1).size ≤ (900000 : Nat))
 (Br (ttE (wy (tkN (tkR b)).toNat (tkR (tkR b))).2.1 != (0 : Int))
 (Q
 [AV.agg
 [AV.int IntKind.i64 (0 : Int), AV.row Ty.int [], AV.int IntKind.i64 (0 : Int),
 AV.int IntKind.i64 (0 : Int), AV.str (ByteArray.mk (Array.mk [])), AV.row Ty.attr [],
 AV.str (ByteArray.mk (Array.mk [])), AV.row Ty.node [], AV.int IntKind.i64 (0 : Int),
 AV.int IntKind.i64 (0 : Int), AV.str (ByteArray.mk (Array.mk [])), AV.row Ty.attr [],
 AV.str (ByteArray.mk (Array.mk [])), AV.row Ty.node [], AV.str (ByteArray.mk (Array.mk [])),
 AV.bool true]]
 [] [])
 (Br (rdE (ttS (wy (tkN (tkR b)).toNat (tkR (tkR b))).2.1) != (0 : Int))
 (Q
 [AV.agg
 [AV.int IntKind.i64 (0 : Int), AV.row Ty.int [], AV.int IntKind.i64 (0 : Int),
 AV.int IntKind.i64 (0 : Int), AV.str (ByteArray.mk (Array.mk [])), AV.row Ty.attr [],
 AV.str (ByteArray.mk (Array.mk [])), AV.row Ty.node [], AV.int IntKind.i64 (0 : Int),
 AV.int IntKind.i64 (0 : Int), AV.str (ByteArray.mk (Array.mk [])), AV.row Ty.attr [],
 AV.str (ByteArray.mk (Array.mk [])), AV.row Ty.node [],
 AV.str (ByteArray.mk (Array.mk [])), AV.bool true]]
 [] [])
 (Gv ((rdL (ttS (wy (tkN (tkR b)).toNat (tkR (tkR b))).2.1)).length ≤ maxSl)
 (Br ((↑(rdL (ttS (wy (tkN (tkR b)).toNat (tkR (tkR b))).2.1)).length : Int) != (1 : Int))
 (Q
 [AV.agg
 [AV.int IntKind.i64 (0 : Int), AV.row Ty.int [], AV.int IntKind.i64 (0 : Int),
 AV.int IntKind.i64 (0 : Int), AV.str (ByteArray.mk (Array.mk [])), AV.row Ty.attr [],
 AV.str (ByteArray.mk (Array.mk [])), AV.row Ty.node [], AV.int IntKind.i64 (0 : Int),
 AV.int IntKind.i64 (0 : Int), AV.str (ByteArray.mk (Array.mk [])), AV.row Ty.attr [],
 AV.str (ByteArray.mk (Array.mk [])), AV.row Ty.node [],
 AV.str (ByteArray.mk (Array.mk [])), AV.bool true]]
 [] [])
 (Br (tkN b == (1 : Int))
 (Rq
 ((0 : Int) ≤ (0 : Int) ∧
 (0 : Int) < (↑(rdL (ttS (wy (tkN (tkR b)).toNat (tkR (tkR b))).2.1)).length : Int))
 (Q
 [AV.agg
 [AV.int IntKind.i64 (tkN b), AV.row Ty.int [], AV.int IntKind.i64 (0 : Int),
 AV.int IntKind.i64 (0 : Int), AV.str (ByteArray.mk (Array.mk [])),
 AV.row Ty.attr [], AV.str (ByteArray.mk (Array.mk [])), AV.row Ty.node [],
 AV.int IntKind.i64
 (rd Ty.node (rdL (ttS (wy (tkN (tkR b)).toNat (tkR (tkR b))).2.1)) (0 : Int)).1,
 AV.int IntKind.i64
 (rd Ty.node (rdL (ttS (wy (tkN (tkR b)).toNat (tkR (tkR b))).2.1)) (0 : Int)).2,
 AV.str
 (rd Ty.node (rdL (ttS (wy (tkN (tkR b)).toNat (tkR (tkR b))).2.1)) (0 : Int)).3,
 AV.row Ty.attr
 (rd Ty.node (rdL (ttS (wy (tkN (tkR b)).toNat (tkR (tkR b))).2.1)) (0 : Int)).4,
 AV.str
 (rd Ty.node (rdL (ttS (wy (tkN (tkR b)).toNat (tkR (tkR b))).2.1)) (0 : Int)).5,
 AV.row Ty.node
 (rd Ty.node (rdL (ttS (wy (tkN (tkR b)).toNat (tkR (tkR b))).2.1)) (0 : Int)).6,
 AV.str (ttR (wy (tkN (tkR b)).toNat (tkR (tkR b))).2.1), AV.bool false]]
 [] []))
 (Rq
 ((0 : Int) ≤ (0 : Int) ∧
 (0 : Int) < (↑(rdL (ttS (wy (tkN (tkR b)).toNat (tkR (tkR b))).2.1)).length : Int))
 (Q
 [AV.agg
 [AV.int IntKind.i64 (tkN b), AV.row Ty.int [],
 AV.int IntKind.i64
 (rd Ty.node (rdL (ttS (wy (tkN (tkR b)).toNat (tkR (tkR b))).2.1)) (0 : Int)).1,
 AV.int IntKind.i64
 (rd Ty.node (rdL (ttS (wy (tkN (tkR b)).toNat (tkR (tkR b))).2.1)) (0 : Int)).2,
 AV.str
 (rd Ty.node (rdL (ttS (wy (tkN (tkR b)).toNat (tkR (tkR b))).2.1)) (0 : Int)).3,
 AV.row Ty.attr
 (rd Ty.node (rdL (ttS (wy (tkN (tkR b)).toNat (tkR (tkR b))).2.1)) (0 : Int)).4,
 AV.str
 (rd Ty.node (rdL (ttS (wy (tkN (tkR b)).toNat (tkR (tkR b))).2.1)) (0 : Int)).5,
 AV.row Ty.node
 (rd Ty.node (rdL (ttS (wy (tkN (tkR b)).toNat (tkR (tkR b))).2.1)) (0 : Int)).6,
 AV.int IntKind.i64 (0 : Int), AV.int IntKind.i64 (0 : Int),
 AV.str (ByteArray.mk (Array.mk [])), AV.row Ty.attr [],
 AV.str (ByteArray.mk (Array.mk [])), AV.row Ty.node [],
 AV.str (ttR (wy (tkN (tkR b)).toNat (tkR (tkR b))).2.1), AV.bool false]]
 [] []))))))))
 (Br (tkN b == (3 : Int))
 (Br (tlE (wy (tkN (tkR b)).toNat (tkR (tkR b))).2.1 != (0 : Int))
 (Q
 [AV.agg
 [AV.int IntKind.i64 (0 : Int), AV.row Ty.int [], AV.int IntKind.i64 (0 : Int),
 AV.int IntKind.i64 (0 : Int), AV.str (ByteArray.mk (Array.mk [])), AV.row Ty.attr [],
 AV.str (ByteArray.mk (Array.mk [])), AV.row Ty.node [], AV.int IntKind.i64 (0 : Int),
 AV.int IntKind.i64 (0 : Int), AV.str (ByteArray.mk (Array.mk [])), AV.row Ty.attr [],
 AV.str (ByteArray.mk (Array.mk [])), AV.row Ty.node [], AV.str (ByteArray.mk (Array.mk [])),
 AV.bool true]]
 [] [])
 (Br (tlE (tlR (wy (tkN (tkR b)).toNat (tkR (tkR b))).2.1) != (0 : Int))
 (Q
 [AV.agg
 [AV.int IntKind.i64 (0 : Int), AV.row Ty.int [], AV.int IntKind.i64 (0 : Int),
 AV.int IntKind.i64 (0 : Int), AV.str (ByteArray.mk (Array.mk [])), AV.row Ty.attr [],
 AV.str (ByteArray.mk (Array.mk [])), AV.row Ty.node [], AV.int IntKind.i64 (0 : Int),
 AV.int IntKind.i64 (0 : Int), AV.str (ByteArray.mk (Array.mk [])), AV.row Ty.attr [],
 AV.str (ByteArray.mk (Array.mk [])), AV.row Ty.node [],
 AV.str (ByteArray.mk (Array.mk [])), AV.bool true]]
 [] [])
 (Rq ((2 : Int) ≠ (0 : Int))
 (Br
 (decide
 ((↑(tlL (wy (tkN (tkR b)).toNat (tkR (tkR b))).2.1).length : Int).tmod (2 : Int) >
 (0 : Int)))
 (Gv ((tlL (wy (tkN (tkR b)).toNat (tkR (tkR b))).2.1).length ≤ maxSl)
 (Q
 [AV.agg
 [AV.int IntKind.i64 (0 : Int), AV.row Ty.int [], AV.int IntKind.i64 (0 : Int),
 AV.int IntKind.i64 (0 : Int), AV.str (ByteArray.mk (Array.mk [])),
 AV.row Ty.attr [], AV.str (ByteArray.mk (Array.mk [])), AV.row Ty.node [],
 AV.int IntKind.i64 (0 : Int), AV.int IntKind.i64 (0 : Int),
 AV.str (ByteArray.mk (Array.mk [])), AV.row Ty.attr [],
 AV.str (ByteArray.mk (Array.mk [])), AV.row Ty.node [],
 AV.str (ByteArray.mk (Array.mk [])), AV.bool true]]
 [] []))
 (Rq ((2 : Int) ≠ (0 : Int))
 (Gv ((tlL (wy (tkN (tkR b)).toNat (tkR (tkR b))).2.1).length ≤ maxSl)
 (Gv ((tlL (tlR (wy (tkN (tkR b)).toNat (tkR (tkR b))).2.1)).length ≤ maxSl)
 (Br
 (decide
 ((↑(tlL (tlR (wy (tkN (tkR b)).toNat (tkR (tkR b))).2.1)).length : Int).tmod
 (2 : Int) >
 (0 : Int)))
 (Q
 [AV.agg
 [AV.int IntKind.i64 (0 : Int), AV.row Ty.int [], AV.int IntKind.i64 (0 : Int),
 AV.int IntKind.i64 (0 : Int), AV.str (ByteArray.mk (Array.mk [])),
 AV.row Ty.attr [], AV.str (ByteArray.mk (Array.mk [])), AV.row Ty.node [],
 AV.int IntKind.i64 (0 : Int), AV.int IntKind.i64 (0 : Int),
 AV.str (ByteArray.mk (Array.mk [])), AV.row Ty.attr [],
 AV.str (ByteArray.mk (Array.mk [])), AV.row Ty.node [],
 AV.str (ByteArray.mk (Array.mk [])), AV.bool true]]
 [] [])
 (Rq ((tlL (wy (tkN (tkR b)).toNat (tkR (tkR b))).2.1).length ≤ (1000 : Nat))
 (Rq ((tlL (tlR (wy (tkN (tkR b)).toNat (tkR (tkR b))).2.1)).length ≤ (1000 : Nat))
 (Q
 [AV.agg
 [AV.int IntKind.i64 (tkN b), AV.row Ty.int [], AV.int IntKind.i64 (0 : Int),
 AV.int IntKind.i64 (0 : Int), AV.str (ByteArray.mk (Array.mk [])),
 AV.row Ty.attr (prs (tlL (wy (tkN (tkR b)).toNat (tkR (tkR b))).2.1)),
 AV.str (ByteArray.mk (Array.mk [])), AV.row Ty.node [],
 AV.int IntKind.i64 (0 : Int), AV.int IntKind.i64 (0 : Int),
 AV.str (ByteArray.mk (Array.mk [])),
 AV.row Ty.attr
 (prs (tlL (tlR (wy (tkN (tkR b)).toNat (tkR (tkR b))).2.1))),
 AV.str (ByteArray.mk (Array.mk [])), AV.row Ty.node [],
 AV.str (tlR (tlR (wy (tkN (tkR b)).toNat (tkR (tkR b))).2.1)),
 AV.bool false]]
 [] [])))))))))))
 (Br (tkN b == (4 : Int))
 (Br (ttE (wy (tkN (tkR b)).toNat (tkR (tkR b))).2.1 != (0 : Int))
 (Q
 [AV.agg
 [AV.int IntKind.i64 (0 : Int), AV.row Ty.int [], AV.int IntKind.i64 (0 : Int),
 AV.int IntKind.i64 (0 : Int), AV.str (ByteArray.mk (Array.mk [])), AV.row Ty.attr [],
 AV.str (ByteArray.mk (Array.mk [])), AV.row Ty.node [], AV.int IntKind.i64 (0 : Int),
 AV.int IntKind.i64 (0 : Int), AV.str (ByteArray.mk (Array.mk [])), AV.row Ty.attr [],
 AV.str (ByteArray.mk (Array.mk [])), AV.row Ty.node [],
 AV.str (ByteArray.mk (Array.mk [])), AV.bool true]]
 [] [])
 (Br (ttE (ttR (wy (tkN (tkR b)).toNat (tkR (tkR b))).2.1) != (0 : Int))
 (Q
 [AV.agg
 [AV.int IntKind.i64 (0 : Int), AV.row Ty.int [], AV.int IntKind.i64 (0 : Int),
 AV.int IntKind.i64 (0 : Int), AV.str (ByteArray.mk (Array.mk [])), AV.row Ty.attr [],
 AV.str (ByteArray.mk (Array.mk [])), AV.row Ty.node [], AV.int IntKind.i64 (0 : Int),
 AV.int IntKind.i64 (0 : Int), AV.str (ByteArray.mk (Array.mk [])), AV.row Ty.attr [],
 AV.str (ByteArray.mk (Array.mk [])), AV.row Ty.node [],
 AV.str (ByteArray.mk (Array.mk [])), AV.bool true]]
 [] [])
 (Q
 [AV.agg
 [AV.int IntKind.i64 (tkN b), AV.row Ty.int [], AV.int IntKind.i64 (0 : Int),
 AV.int IntKind.i64 (0 : Int), AV.str (ByteArray.mk (Array.mk [])), AV.row Ty.attr [],
 AV.str (ttS (wy (tkN (tkR b)).toNat (tkR (tkR b))).2.1), AV.row Ty.node [],
 AV.int IntKind.i64 (0 : Int), AV.int IntKind.i64 (0 : Int),
 AV.str (ByteArray.mk (Array.mk [])), AV.row Ty.attr [],
 AV.str (ttS (ttR (wy (tkN (tkR b)).toNat (tkR (tkR b))).2.1)), AV.row Ty.node [],
 AV.str (ttR (ttR (wy (tkN (tkR b)).toNat (tkR (tkR b))).2.1)), AV.bool false]]
 [] [])))
 (Q
 [AV.agg
 [AV.int IntKind.i64 (0 : Int), AV.row Ty.int [], AV.int IntKind.i64 (0 : Int),
 AV.int IntKind.i64 (0 : Int), AV.str (ByteArray.mk (Array.mk [])), AV.row Ty.attr [],
 AV.str (ByteArray.mk (Array.mk [])), AV.row Ty.node [], AV.int IntKind.i64 (0 : Int),
 AV.int IntKind.i64 (0 : Int), AV.str (ByteArray.mk (Array.mk [])), AV.row Ty.attr [],
 AV.str (ByteArray.mk (Array.mk [])), AV.row Ty.node [], AV.str (ByteArray.mk (Array.mk [])),
 AV.bool true]]
 [] [])))))
 (Br (tkN b == (1 : Int))
 (Rq ((ttS (wy (tkN (tkR b)).toNat (tkR (tkR b))).2.1).size ≤ (900000 : Nat))
 (Br (ttE (wy (tkN (tkR b)).toNat (tkR (tkR b))).2.1 != (0 : Int))
 (Q
 [AV.agg
 [AV.int IntKind.i64 (0 : Int), AV.row Ty.int [], AV.int IntKind.i64 (0 : Int),
 AV.int IntKind.i64 (0 : Int), AV.str (ByteArray.mk (Array.mk [])), AV.row Ty.attr [],
 AV.str (ByteArray.mk (Array.mk [])), AV.row Ty.node [], AV.int IntKind.i64 (0 : Int),
 AV.int IntKind.i64 (0 : Int), AV.str (ByteArray.mk (Array.mk [])), AV.row Ty.attr [],
 AV.str (ByteArray.mk (Array.mk [])), AV.row Ty.node [], AV.str (ByteArray.mk (Array.mk [])),
 AV.bool true]]
 [] [])
 (Br (rdE (ttS (wy (tkN (tkR b)).toNat (tkR (tkR b))).2.1) != (0 : Int))
 (Q
 [AV.agg
 [AV.int IntKind.i64 (0 : Int), AV.row Ty.int [], AV.int IntKind.i64 (0 : Int),
 AV.int IntKind.i64 (0 : Int), AV.str (ByteArray.mk (Array.mk [])), AV.row Ty.attr [],
 AV.str (ByteArray.mk (Array.mk [])), AV.row Ty.node [], AV.int IntKind.i64 (0 : Int),
 AV.int IntKind.i64 (0 : Int), AV.str (ByteArray.mk (Array.mk [])), AV.row Ty.attr [],
 AV.str (ByteArray.mk (Array.mk [])), AV.row Ty.node [], AV.str (ByteArray.mk (Array.mk [])),
 AV.bool true]]
 [] [])
 (Gv ((rdL (ttS (wy (tkN (tkR b)).toNat (tkR (tkR b))).2.1)).length ≤ maxSl)
 (Br ((↑(rdL (ttS (wy (tkN (tkR b)).toNat (tkR (tkR b))).2.1)).length : Int) != (1 : Int))
 (Q
 [AV.agg
 [AV.int IntKind.i64 (0 : Int), AV.row Ty.int [], AV.int IntKind.i64 (0 : Int),
 AV.int IntKind.i64 (0 : Int), AV.str (ByteArray.mk (Array.mk [])), AV.row Ty.attr [],
 AV.str (ByteArray.mk (Array.mk [])), AV.row Ty.node [], AV.int IntKind.i64 (0 : Int),
 AV.int IntKind.i64 (0 : Int), AV.str (ByteArray.mk (Array.mk [])), AV.row Ty.attr [],
 AV.str (ByteArray.mk (Array.mk [])), AV.row Ty.node [],
 AV.str (ByteArray.mk (Array.mk [])), AV.bool true]]
 [] [])
 (Br (tkN b == (1 : Int))
 (Rq
 ((0 : Int) ≤ (0 : Int) ∧
 (0 : Int) < (↑(rdL (ttS (wy (tkN (tkR b)).toNat (tkR (tkR b))).2.1)).length : Int))
 (Q
 [AV.agg
 [AV.int IntKind.i64 (tkN b), AV.row Ty.int (wy (tkN (tkR b)).toNat (tkR (tkR b))).1,
 AV.int IntKind.i64 (0 : Int), AV.int IntKind.i64 (0 : Int),
 AV.str (ByteArray.mk (Array.mk [])), AV.row Ty.attr [],
 AV.str (ByteArray.mk (Array.mk [])), AV.row Ty.node [],
 AV.int IntKind.i64
 (rd Ty.node (rdL (ttS (wy (tkN (tkR b)).toNat (tkR (tkR b))).2.1)) (0 : Int)).1,
 AV.int IntKind.i64
 (rd Ty.node (rdL (ttS (wy (tkN (tkR b)).toNat (tkR (tkR b))).2.1)) (0 : Int)).2,
 AV.str
 (rd Ty.node (rdL (ttS (wy (tkN (tkR b)).toNat (tkR (tkR b))).2.1)) (0 : Int)).3,
 AV.row Ty.attr
 (rd Ty.node (rdL (ttS (wy (tkN (tkR b)).toNat (tkR (tkR b))).2.1)) (0 : Int)).4,
 AV.str
 (rd Ty.node (rdL (ttS (wy (tkN (tkR b)).toNat (tkR (tkR b))).2.1)) (0 : Int)).5,
 AV.row Ty.node
 (rd Ty.node (rdL (ttS (wy (tkN (tkR b)).toNat (tkR (tkR b))).2.1)) (0 : Int)).6,
 AV.str (ttR (wy (tkN (tkR b)).toNat (tkR (tkR b))).2.1), AV.bool false]]
 [] []))
 (Rq
 ((0 : Int) ≤ (0 : Int) ∧
 (0 : Int) < (↑(rdL (ttS (wy (tkN (tkR b)).toNat (tkR (tkR b))).2.1)).length : Int))
 (Q
 [AV.agg
 [AV.int IntKind.i64 (tkN b), AV.row Ty.int (wy (tkN (tkR b)).toNat (tkR (tkR b))).1,
 AV.int IntKind.i64
 (rd Ty.node (rdL (ttS (wy (tkN (tkR b)).toNat (tkR (tkR b))).2.1)) (0 : Int)).1,
 AV.int IntKind.i64
 (rd Ty.node (rdL (ttS (wy (tkN (tkR b)).toNat (tkR (tkR b))).2.1)) (0 : Int)).2,
 AV.str
 (rd Ty.node (rdL (ttS (wy (tkN (tkR b)).toNat (tkR (tkR b))).2.1)) (0 : Int)).3,
 AV.row Ty.attr
 (rd Ty.node (rdL (ttS (wy (tkN (tkR b)).toNat (tkR (tkR b))).2.1)) (0 : Int)).4,
 AV.str
 (rd Ty.node (rdL (ttS (wy (tkN (tkR b)).toNat (tkR (tkR b))).2.1)) (0 : Int)).5,
 AV.row Ty.node
 (rd Ty.node (rdL (ttS (wy (tkN (tkR b)).toNat (tkR (tkR b))).2.1)) (0 : Int)).6,
 AV.int IntKind.i64 (0 : Int), AV.int IntKind.i64 (0 : Int),
 AV.str (ByteArray.mk (Array.mk [])), AV.row Ty.attr [],
 AV.str (ByteArray.mk (Array.mk [])), AV.row Ty.node [],
 AV.str (ttR (wy (tkN (tkR b)).toNat (tkR (tkR b))).2.1), AV.bool false]]
 [] []))))))))
 (Br (tkN b == (2 : Int))
 (Rq ((ttS (wy (tkN (tkR b)).toNat (tkR (tkR b))).2.1).size ≤ (900000 : Nat))
 (Br (ttE (wy (tkN (tkR b)).toNat (tkR (tkR b))).2.1 != (0 : Int))
 (Q
 [AV.agg
 [AV.int IntKind.i64 (0 : Int), AV.row Ty.int [], AV.int IntKind.i64 (0 : Int),
 AV.int IntKind.i64 (0 : Int), AV.str (ByteArray.mk (Array.mk [])), AV.row Ty.attr [],
 AV.str (ByteArray.mk (Array.mk [])), AV.row Ty.node [], AV.int IntKind.i64 (0 : Int),
 AV.int IntKind.i64 (0 : Int), AV.str (ByteArray.mk (Array.mk [])), AV.row Ty.attr [],
 AV.str (ByteArray.mk (Array.mk [])), AV.row Ty.node [], AV.str (ByteArray.mk (Array.mk [])),
 AV.bool true]]
 [] [])
 (Br (rdE (ttS (wy (tkN (tkR b)).toNat (tkR (tkR b))).2.1) != (0 : Int))
 (Q
 [AV.agg
 [AV.int IntKind.i64 (0 : Int), AV.row Ty.int [], AV.int IntKind.i64 (0 : Int),
 AV.int IntKind.i64 (0 : Int), AV.str (ByteArray.mk (Array.mk [])), AV.row Ty.attr [],
 AV.str (ByteArray.mk (Array.mk [])), AV.row Ty.node [], AV.int IntKind.i64 (0 : Int),
 AV.int IntKind.i64 (0 : Int), AV.str (ByteArray.mk (Array.mk [])), AV.row Ty.attr [],
 AV.str (ByteArray.mk (Array.mk [])), AV.row Ty.node [],
 AV.str (ByteArray.mk (Array.mk [])), AV.bool true]]
 [] [])
 (Gv ((rdL (ttS (wy (tkN (tkR b)).toNat (tkR (tkR b))).2.1)).length ≤ maxSl)
 (Br ((↑(rdL (ttS (wy (tkN (tkR b)).toNat (tkR (tkR b))).2.1)).length : Int) != (1 : Int))
 (Q
 [AV.agg
 [AV.int IntKind.i64 (0 : Int), AV.row Ty.int [], AV.int IntKind.i64 (0 : Int),
 AV.int IntKind.i64 (0 : Int), AV.str (ByteArray.mk (Array.mk [])), AV.row Ty.attr [],
 AV.str (ByteArray.mk (Array.mk [])), AV.row Ty.node [], AV.int IntKind.i64 (0 : Int),
 AV.int IntKind.i64 (0 : Int), AV.str (ByteArray.mk (Array.mk [])), AV.row Ty.attr [],
 AV.str (ByteArray.mk (Array.mk [])), AV.row Ty.node [],
 AV.str (ByteArray.mk (Array.mk [])), AV.bool true]]
 [] [])
 (Br (tkN b == (1 : Int))
 (Rq
 ((0 : Int) ≤ (0 : Int) ∧
 (0 : Int) < (↑(rdL (ttS (wy (tkN (tkR b)).toNat (tkR (tkR b))).2.1)).length : Int))
 (Q
 [AV.agg
 [AV.int IntKind.i64 (tkN b), AV.row Ty.int (wy (tkN (tkR b)).toNat (tkR (tkR b))).1,
 AV.int IntKind.i64 (0 : Int), AV.int IntKind.i64 (0 : Int),
 AV.str (ByteArray.mk (Array.mk [])), AV.row Ty.attr [],
 AV.str (ByteArray.mk (Array.mk [])), AV.row Ty.node [],
 AV.int IntKind.i64
 (rd Ty.node (rdL (ttS (wy (tkN (tkR b)).toNat (tkR (tkR b))).2.1)) (0 : Int)).1,
 AV.int IntKind.i64
 (rd Ty.node (rdL (ttS (wy (tkN (tkR b)).toNat (tkR (tkR b))).2.1)) (0 : Int)).2,
 AV.str
 (rd Ty.node (rdL (ttS (wy (tkN (tkR b)).toNat (tkR (tkR b))).2.1)) (0 : Int)).3,
 AV.row Ty.attr
 (rd Ty.node (rdL (ttS (wy (tkN (tkR b)).toNat (tkR (tkR b))).2.1)) (0 : Int)).4,
 AV.str
 (rd Ty.node (rdL (ttS (wy (tkN (tkR b)).toNat (tkR (tkR b))).2.1)) (0 : Int)).5,
 AV.row Ty.node
 (rd Ty.node (rdL (ttS (wy (tkN (tkR b)).toNat (tkR (tkR b))).2.1)) (0 : Int)).6,
 AV.str (ttR (wy (tkN (tkR b)).toNat (tkR (tkR b))).2.1), AV.bool false]]
 [] []))
 (Rq
 ((0 : Int) ≤ (0 : Int) ∧
 (0 : Int) < (↑(rdL (ttS (wy (tkN (tkR b)).toNat (tkR (tkR b))).2.1)).length : Int))
 (Q
 [AV.agg
 [AV.int IntKind.i64 (tkN b), AV.row Ty.int (wy (tkN (tkR b)).toNat (tkR (tkR b))).1,
 AV.int IntKind.i64
 (rd Ty.node (rdL (ttS (wy (tkN (tkR b)).toNat (tkR (tkR b))).2.1)) (0 : Int)).1,
 AV.int IntKind.i64
 (rd Ty.node (rdL (ttS (wy (tkN (tkR b)).toNat (tkR (tkR b))).2.1)) (0 : Int)).2,
 AV.str
 (rd Ty.node (rdL (ttS (wy (tkN (tkR b)).toNat (tkR (tkR b))).2.1)) (0 : Int)).3,
 AV.row Ty.attr
 (rd Ty.node (rdL (ttS (wy (tkN (tkR b)).toNat (tkR (tkR b))).2.1)) (0 : Int)).4,
 AV.str
 (rd Ty.node (rdL (ttS (wy (tkN (tkR b)).toNat (tkR (tkR b))).2.1)) (0 : Int)).5,
 AV.row Ty.node
 (rd Ty.node (rdL (ttS (wy (tkN (tkR b)).toNat (tkR (tkR b))).2.1)) (0 : Int)).6,
 AV.int IntKind.i64 (0 : Int), AV.int IntKind.i64 (0 : Int),
 AV.str (ByteArray.mk (Array.mk [])), AV.row Ty.attr [],
 AV.str (ByteArray.mk (Array.mk [])), AV.row Ty.node [],
 AV.str (ttR (wy (tkN (tkR b)).toNat (tkR (tkR b))).2.1), AV.bool false]]
 [] []))))))))
 (Br (tkN b == (3 : Int))
 (Br (tlE (wy (tkN (tkR b)).toNat (tkR (tkR b))).2.1 != (0 : Int))
 (Q
 [AV.agg
 [AV.int IntKind.i64 (0 : Int), AV.row Ty.int [], AV.int IntKind.i64 (0 : Int),
 AV.int IntKind.i64 (0 : Int), AV.str (ByteArray.mk (Array.mk [])), AV.row Ty.attr [],
 AV.str (ByteArray.mk (Array.mk [])), AV.row Ty.node [], AV.int IntKind.i64 (0 : Int),
 AV.int IntKind.i64 (0 : Int), AV.str (ByteArray.mk (Array.mk [])), AV.row Ty.attr [],
 AV.str (ByteArray.mk (Array.mk [])), AV.row Ty.node [], AV.str (ByteArray.mk (Array.mk [])),
 AV.bool true]]
 [] [])
 (Br (tlE (tlR (wy (tkN (tkR b)).toNat (tkR (tkR b))).2.1) != (0 : Int))
 (Q
 [AV.agg
 [AV.int IntKind.i64 (0 : Int), AV.row Ty.int [], AV.int IntKind.i64 (0 : Int),
 AV.int IntKind.i64 (0 : Int), AV.str (ByteArray.mk (Array.mk [])), AV.row Ty.attr [],
 AV.str (ByteArray.mk (Array.mk [])), AV.row Ty.node [], AV.int IntKind.i64 (0 : Int),
 AV.int IntKind.i64 (0 : Int), AV.str (ByteArray.mk (Array.mk [])), AV.row Ty.attr [],
 AV.str (ByteArray.mk (Array.mk [])), AV.row Ty.node [],
 AV.str (ByteArray.mk (Array.mk [])), AV.bool true]]
 [] [])
 (Rq ((2 : Int) ≠ (0 : Int))
 (Br
 (decide
 ((↑(tlL (wy (tkN (tkR b)).toNat (tkR (tkR b))).2.1).length : Int).tmod (2 : Int) >
 (0 : Int)))
 (Gv ((tlL (wy (tkN (tkR b)).toNat (tkR (tkR b))).2.1).length ≤ maxSl)
 (Q
 [AV.agg
 [AV.int IntKind.i64 (0 : Int), AV.row Ty.int [], AV.int IntKind.i64 (0 : Int),
 AV.int IntKind.i64 (0 : Int), AV.str (ByteArray.mk (Array.mk [])),
 AV.row Ty.attr [], AV.str (ByteArray.mk (Array.mk [])), AV.row Ty.node [],
 AV.int IntKind.i64 (0 : Int), AV.int IntKind.i64 (0 : Int),
 AV.str (ByteArray.mk (Array.mk [])), AV.row Ty.attr [],
 AV.str (ByteArray.mk (Array.mk [])), AV.row Ty.node [],
 AV.str (ByteArray.mk (Array.mk [])), AV.bool true]]
 [] []))
 (Rq ((2 : Int) ≠ (0 : Int))
 (Gv ((tlL (wy (tkN (tkR b)).toNat (tkR (tkR b))).2.1).length ≤ maxSl)
 (Gv ((tlL (tlR (wy (tkN (tkR b)).toNat (tkR (tkR b))).2.1)).length ≤ maxSl)
 (Br
 (decide
 ((↑(tlL (tlR (wy (tkN (tkR b)).toNat (tkR (tkR b))).2.1)).length : Int).tmod
 (2 : Int) >
 (0 : Int)))
 (Q
 [AV.agg
 [AV.int IntKind.i64 (0 : Int), AV.row Ty.int [], AV.int IntKind.i64 (0 : Int),
 AV.int IntKind.i64 (0 : Int), AV.str (ByteArray.mk (Array.mk [])),
 AV.row Ty.attr [], AV.str (ByteArray.mk (Array.mk [])), AV.row Ty.node [],
 AV.int IntKind.i64 (0 : Int), AV.int IntKind.i64 (0 : Int),
 AV.str (ByteArray.mk (Array.mk [])), AV.row Ty.attr [],
 AV.str (ByteArray.mk (Array.mk [])), AV.row Ty.node [],
 AV.str (ByteArray.mk (Array.mk [])), AV.bool true]]
 [] [])
 (Rq ((tlL (wy (tkN (tkR b)).toNat (tkR (tkR b))).2.1).length ≤ (1000 : Nat))
 (Rq ((tlL (tlR (wy (tkN (tkR b)).toNat (tkR (tkR b))).2.1)).length ≤ (1000 : Nat))
 (Q
 [AV.agg
 [AV.int IntKind.i64 (tkN b),
 AV.row Ty.int (wy (tkN (tkR b)).toNat (tkR (tkR b))).1,
 AV.int IntKind.i64 (0 : Int), AV.int IntKind.i64 (0 : Int),
 AV.str (ByteArray.mk (Array.mk [])),
 AV.row Ty.attr (prs (tlL (wy (tkN (tkR b)).toNat (tkR (tkR b))).2.1)),
 AV.str (ByteArray.mk (Array.mk [])), AV.row Ty.node [],
 AV.int IntKind.i64 (0 : Int), AV.int IntKind.i64 (0 : Int),
 AV.str (ByteArray.mk (Array.mk [])),
 AV.row Ty.attr
 (prs (tlL (tlR (wy (tkN (tkR b)).toNat (tkR (tkR b))).2.1))),
 AV.str (ByteArray.mk (Array.mk [])), AV.row Ty.node [],
 AV.str (tlR (tlR (wy (tkN (tkR b)).toNat (tkR (tkR b))).2.1)),
 AV.bool false]]
 [] [])))))))))))
 (Br (tkN b == (4 : Int))
 (Br (ttE (wy (tkN (tkR b)).toNat (tkR (tkR b))).2.1 != (0 : Int))
 (Q
 [AV.agg
 [AV.int IntKind.i64 (0 : Int), AV.row Ty.int [], AV.int IntKind.i64 (0 : Int),
 AV.int IntKind.i64 (0 : Int), AV.str (ByteArray.mk (Array.mk [])), AV.row Ty.attr [],
 AV.str (ByteArray.mk (Array.mk [])), AV.row Ty.node [], AV.int IntKind.i64 (0 : Int),
 AV.int IntKind.i64 (0 : Int), AV.str (ByteArray.mk (Array.mk [])), AV.row Ty.attr [],
 AV.str (ByteArray.mk (Array.mk [])), AV.row Ty.node [],
 AV.str (ByteArray.mk (Array.mk [])), AV.bool true]]
 [] [])
 (Br (ttE (ttR (wy (tkN (tkR b)).toNat (tkR (tkR b))).2.1) != (0 : Int))
 (Q
 [AV.agg
 [AV.int IntKind.i64 (0 : Int), AV.row Ty.int [], AV.int IntKind.i64 (0 : Int),
 AV.int IntKind.i64 (0 : Int), AV.str (ByteArray.mk (Array.mk [])), AV.row Ty.attr [],
 AV.str (ByteArray.mk (Array.mk [])), AV.row Ty.node [], AV.int IntKind.i64 (0 : Int),
 AV.int IntKind.i64 (0 : Int), AV.str (ByteArray.mk (Array.mk [])), AV.row Ty.attr [],
 AV.str (ByteArray.mk (Array.mk [])), AV.row Ty.node [],
 AV.str (ByteArray.mk (Array.mk [])), AV.bool true]]
 [] [])
 (Q
 [AV.agg
 [AV.int IntKind.i64 (tkN b), AV.row Ty.int (wy (tkN (tkR b)).toNat (tkR (tkR b))).1,
 AV.int IntKind.i64 (0 : Int), AV.int IntKind.i64 (0 : Int),
 AV.str (ByteArray.mk (Array.mk [])), AV.row Ty.attr [],
 AV.str (ttS (wy (tkN (tkR b)).toNat (tkR (tkR b))).2.1), AV.row Ty.node [],
 AV.int IntKind.i64 (0 : Int), AV.int IntKind.i64 (0 : Int),
 AV.str (ByteArray.mk (Array.mk [])), AV.row Ty.attr [],
 AV.str (ttS (ttR (wy (tkN (tkR b)).toNat (tkR (tkR b))).2.1)), AV.row Ty.node [],
 AV.str (ttR (ttR (wy (tkN (tkR b)).toNat (tkR (tkR b))).2.1)), AV.bool false]]
 [] [])))
 (Q
 [AV.agg
 [AV.int IntKind.i64 (0 : Int), AV.row Ty.int [], AV.int IntKind.i64 (0 : Int),
 AV.int IntKind.i64 (0 : Int), AV.str (ByteArray.mk (Array.mk [])), AV.row Ty.attr [],
 AV.str (ByteArray.mk (Array.mk [])), AV.row Ty.node [], AV.int IntKind.i64 (0 : Int),
 AV.int IntKind.i64 (0 : Int), AV.str (ByteArray.mk (Array.mk [])), AV.row Ty.attr [],
 AV.str (ByteArray.mk (Array.mk [])), AV.row Ty.node [], AV.str (ByteArray.mk (Array.mk [])),
 AV.bool true]]
 [] []))))))
 (Br ((wy (tkN (tkR b)).toNat (tkR (tkR b))).1.length == (0 : Nat))
 (Q
 [AV.agg
 [AV.int IntKind.i64 (0 : Int), AV.row Ty.int [], AV.int IntKind.i64 (0 : Int),
 AV.int IntKind.i64 (0 : Int), AV.str (ByteArray.mk (Array.mk [])), AV.row Ty.attr [],
 AV.str (ByteArray.mk (Array.mk [])), AV.row Ty.node [], AV.int IntKind.i64 (0 : Int),
 AV.int IntKind.i64 (0 : Int), AV.str (ByteArray.mk (Array.mk [])), AV.row Ty.attr [],
 AV.str (ByteArray.mk (Array.mk [])), AV.row Ty.node [], AV.str (ByteArray.mk (Array.mk [])),
 AV.bool true]]
 [] [])
 (Q
 [AV.agg
 [AV.int IntKind.i64 (0 : Int), AV.row Ty.int [], AV.int IntKind.i64 (0 : Int),
 AV.int IntKind.i64 (0 : Int), AV.str (ByteArray.mk (Array.mk [])), AV.row Ty.attr [],
 AV.str (ByteArray.mk (Array.mk [])), AV.row Ty.node [], AV.int IntKind.i64 (0 : Int),
 AV.int IntKind.i64 (0 : Int), AV.str (ByteArray.mk (Array.mk [])), AV.row Ty.attr [],
 AV.str (ByteArray.mk (Array.mk [])), AV.row Ty.node [], AV.str (ByteArray.mk (Array.mk [])),
 AV.bool true]]
 [] []))))))) := by kernel_rfl
theorem vcQRdB (o : List Ed) (r s1 s3 : ByteArray) (s2 : List ByteArray) (i n s4 : Int) (K : Ex → List AV → List Blk → Prop) : (bodyA cxQRd (LL Tryz.f16 [lsQRd]) Tryz.f16.ntmps (loopAt Tryz.f16 0).1 (loopAt Tryz.f16 0).2 lsQRd.keep lsQRd.left K [.ptr 0 0, .str r, .own 1 0, .int .i64 i] [.box [.int .i64 n, .str s1, .row .str s2, .str s3, .int .i64 s4], .rowb 0 .redit o]) = (
Br (decide (i < n))
 (Br (qEd r).2.2
 (K Ex.ret [AV.str r, AV.own (0 : Nat) (0 : Nat), AV.nil, AV.int IntKind.i64 (4 : Int)]
 [Blk.rowb (0 : Nat) Ty.redit o])
 (Rq
 ((o.length +
 [Ed.mk (qEd r).1.1 (qEd r).1.2
 (Nd.mk (qEd r).1.3.1 (qEd r).1.3.2 (qEd r).1.3.3 (qEd r).1.3.4 (qEd r).1.3.5 (qEd r).1.3.6)
 (Nd.mk (qEd r).1.4.1 (qEd r).1.4.2 (qEd r).1.4.3 (qEd r).1.4.4 (qEd r).1.4.5 (qEd r).1.4.6)].length) *
 (224 : Nat) ≤
 maxSl)
 (K Ex.norm
 [AV.ptr (0 : Nat) (0 : Nat), AV.str (qEd r).2.1, AV.own ((0 : Nat) + (1 : Nat)) (0 : Nat),
 AV.int IntKind.i64 (IntKind.i64.wrap (i + (1 : Int)))]
 [Blk.box [AV.int IntKind.i64 n, AV.str s1, AV.row Ty.str s2, AV.str s3, AV.int IntKind.i64 s4],
 Blk.rowb (0 : Nat) Ty.redit
 (o ++
 [Ed.mk (qEd r).1.1 (qEd r).1.2
 (Nd.mk (qEd r).1.3.1 (qEd r).1.3.2 (qEd r).1.3.3 (qEd r).1.3.4 (qEd r).1.3.5 (qEd r).1.3.6)
 (Nd.mk (qEd r).1.4.1 (qEd r).1.4.2 (qEd r).1.4.3 (qEd r).1.4.4 (qEd r).1.4.5 (qEd r).1.4.6)])])))
 (K (Ex.exit (0 : Nat)) [AV.str r, AV.own (0 : Nat) (0 : Nat), AV.any, AV.any] [Blk.rowb (0 : Nat) Ty.redit o])) := by kernel_rfl
theorem vcQRdF (b : ByteArray) (Q : List AV → List Blk → List Blk → Prop) : (funA cxQRd (LL Tryz.f16 [lsQRd]) Tryz.f16 [.str b] [] [.row .redit, .as] Q) = (
Br (tkE b != (0 : Int)) (Q [AV.row Ty.redit [], AV.int IntKind.i64 (4 : Int)] [] [])
 (Br (decide (tkN b > (400 : Int))) (Q [AV.row Ty.redit [], AV.int IntKind.i64 (4 : Int)] [] [])
 (Rq ((0 : Int) = (0 : Int) ∧ (0 : Nat) = (0 : Nat) ∧ (0 : Int) ≤ tkN b ∧ tkN b ≤ (400 : Int))
 (Br (qEds (tkN b).toNat (tkR b)).2.2
 (Br (!eqS (qEds (tkN b).toNat (tkR b)).2.1 (ByteArray.mk (Array.mk [])))
 (Q [AV.row Ty.redit [], AV.int IntKind.i64 (4 : Int)] [] [])
 (Rq (fineEds (qEds (tkN b).toNat (tkR b)).1)
 (Br (dchkS (qEds (tkN b).toNat (tkR b)).1 != (0 : Int))
 (Q [AV.row Ty.redit [], AV.int IntKind.i64 (4 : Int)] [] [])
 (Q [AV.row Ty.redit (qEds (tkN b).toNat (tkR b)).1, AV.int IntKind.i64 (0 : Int)] [] []))))
 (Q [AV.row Ty.redit [], AV.int IntKind.i64 (4 : Int)] [] []))))) := by kernel_rfl
theorem vcSmQB (a b c : List Ed) (m i : Int) (K : Ex → List AV → List Blk → Prop) : (bodyA cxSmQ (LL Tryz.f17 [lsSmQ]) Tryz.f17.ntmps (loopAt Tryz.f17 0).1 (loopAt Tryz.f17 0).2 lsSmQ.keep lsSmQ.left K [.row .redit a, .row .redit b, .row .redit c, .int .i64 m, .int .i64 i] []) = (
Br (decide (i < m))
 (Rq ((0 : Int) ≤ i ∧ i < (↑c.length : Int))
 (Br (decide (i ≥ (↑b.length : Int)))
 (Gv (b.length ≤ maxSl) (K Ex.ret [AV.row Ty.redit a, AV.row Ty.redit b, AV.bool false] []))
 (Rq ((0 : Int) ≤ i ∧ i < (↑b.length : Int))
 (Br ((rd Ty.redit c i).1 != (rd Ty.redit b i).1)
 (Gv (b.length ≤ maxSl) (K Ex.ret [AV.row Ty.redit a, AV.row Ty.redit b, AV.bool false] []))
 (Rq ((0 : Int) ≤ i ∧ i < (↑b.length : Int))
 (Br (!eql eqI (rd Ty.redit c i).2 (rd Ty.redit b i).2)
 (Gv (b.length ≤ maxSl) (K Ex.ret [AV.row Ty.redit a, AV.row Ty.redit b, AV.bool false] []))
 (Rq ((0 : Int) ≤ i ∧ i < (↑b.length : Int))
 (Br
 (!eqNd
 (Nd.mk (rd Ty.redit c i).3.1 (rd Ty.redit c i).3.2 (rd Ty.redit c i).3.3 (rd Ty.redit c i).3.4
 (rd Ty.redit c i).3.5 (rd Ty.redit c i).3.6)
 (Nd.mk (rd Ty.redit b i).3.1 (rd Ty.redit b i).3.2 (rd Ty.redit b i).3.3 (rd Ty.redit b i).3.4
 (rd Ty.redit b i).3.5 (rd Ty.redit b i).3.6))
 (Gv (b.length ≤ maxSl) (K Ex.ret [AV.row Ty.redit a, AV.row Ty.redit b, AV.bool false] []))
 (Rq ((0 : Int) ≤ i ∧ i < (↑b.length : Int))
 (Gv (b.length ≤ maxSl)
 (Br
 (!eqNd
 (Nd.mk (rd Ty.redit c i).4.1 (rd Ty.redit c i).4.2 (rd Ty.redit c i).4.3
 (rd Ty.redit c i).4.4 (rd Ty.redit c i).4.5 (rd Ty.redit c i).4.6)
 (Nd.mk (rd Ty.redit b i).4.1 (rd Ty.redit b i).4.2 (rd Ty.redit b i).4.3
 (rd Ty.redit b i).4.4 (rd Ty.redit b i).4.5 (rd Ty.redit b i).4.6))
 (K Ex.ret [AV.row Ty.redit a, AV.row Ty.redit b, AV.bool false] [])
 (K Ex.norm
 [AV.row Ty.redit a, AV.row Ty.redit b, AV.row Ty.redit c, AV.int IntKind.i64 m,
 AV.int IntKind.i64 (IntKind.i64.wrap (i + (1 : Int)))]
 []))))))))))))
 (K (Ex.exit (0 : Nat)) [AV.row Ty.redit a, AV.row Ty.redit b, AV.any] [])) := by kernel_rfl
theorem vcSmQF (a b : List Ed) (Q : List AV → List Blk → List Blk → Prop) : (funA cxSmQ (LL Tryz.f17 [lsSmQ]) Tryz.f17 [.row .redit a, .row .redit b] [] [] Q) = (
Gv (a.length ≤ maxSl)
 (Rq (a = a ∧ (↑a.length : Int) = (↑a.length : Int) ∧ (0 : Int) = (0 : Int) ∧ a.length ≤ maxSl)
 (Br (beg eqEd a b)
 (Gv (a.length ≤ maxSl) (Gv (b.length ≤ maxSl) (Q [AV.bool ((↑a.length : Int) == (↑b.length : Int))] [] [])))
 (Q [AV.bool false] [] [])))) := by kernel_rfl
theorem vcDReadsF (b : ByteArray) (Q : List AV → List Blk → List Blk → Prop) : (funA cxRdD (LL Tryz.f4 []) Tryz.f4 [.str b] [] [] Q) = (
Gv (b.size ≤ maxSl)
 (Br (decide ((↑b.size : Int) > (2500 : Int))) (Q [AV.bool true] [] [])
 (Rq ((dlL b).length * (224 : Nat) ≤ maxSl)
 (Br (eql eqEd (dlL b) (dlL b)) (Br (dlE b == dlE b) (Q [AV.bool true] [] []) (Q [AV.bool false] [] []))
 (Q [AV.bool false] [] []))))) := by kernel_rfl
end Go.Proofs.YtnhipiedjekkpaaGreatDoor.AX
end
section
namespace Go.Proofs.YtnhipiedjekkpaaGreatDoor.AXP
open Go Go.Proofs.YtnhipiedjekkpaaGreatDoor.AX
theorem ttS_cap (b : ByteArray) : (ttS b).size ≤ 900000 := by
  unfold ttS
  cases h : takeT (kb b) with
  | none => exact Nat.zero_le _
  | some p => exact Nat.le_trans (by rw [bk_size]; exact (take_txt_inv h).2) (by decide)
theorem qBd12_no {k : Int} {w : List Int} {r : ByteArray} (hk : k = 1 ∨ k = 2) (h : ttE r ≠ 0 ∨ rdE (ttS r) ≠ 0 ∨ ¬ (rdL (ttS r)).length = 1) : qBd k w r = zQ := by unfold qBd; rw [if_pos hk, if_pos h]
theorem qBd1 {w : List Int} {r : ByteArray} (h1 : ttE r = 0) (h2 : rdE (ttS r) = 0) (h3 : (rdL (ttS r)).length = 1) : qBd 1 w r = (⟨1, w, zN, rd .node (rdL (ttS r)) 0⟩, ttR r, false) := by
  unfold qBd
  rw [if_pos (.inl rfl), if_neg (by rw [h1, h2, h3]; simp), if_pos rfl]
theorem qBd2 {w : List Int} {r : ByteArray} (h1 : ttE r = 0) (h2 : rdE (ttS r) = 0) (h3 : (rdL (ttS r)).length = 1) : qBd 2 w r = (⟨2, w, rd .node (rdL (ttS r)) 0, zN⟩, ttR r, false) := by
  unfold qBd
  rw [if_pos (.inr rfl), if_neg (by rw [h1, h2, h3]; simp), if_neg (by decide)]
theorem qBd3_no {k : Int} {w : List Int} {r : ByteArray} (hk : k = 3) (h : tlE r ≠ 0 ∨ tlE (tlR r) ≠ 0 ∨ (tlL r).length % 2 > 0 ∨ (tlL (tlR r)).length % 2 > 0) : qBd k w r = zQ := by
  subst hk
  unfold qBd; rw [if_neg (by decide), if_pos rfl, if_pos h]
theorem qBd3 {w : List Int} {r : ByteArray} (h1 : tlE r = 0) (h2 : tlE (tlR r) = 0) (h3 : (tlL r).length % 2 = 0) (h4 : (tlL (tlR r)).length % 2 = 0) : qBd 3 w r = (⟨3, w, { zN with attrs := prs (tlL r) }, { zN with attrs := prs (tlL (tlR r)) }⟩, tlR (tlR r), false) := by
  unfold qBd
  rw [if_neg (by decide), if_pos rfl, if_neg (by rw [h1, h2, h3, h4]; simp)]
theorem qBd4_no {k : Int} {w : List Int} {r : ByteArray} (hk : k = 4) (h : ttE r ≠ 0 ∨ ttE (ttR r) ≠ 0) : qBd k w r = zQ := by
  subst hk
  unfold qBd; rw [if_neg (by decide), if_neg (by decide), if_pos rfl, if_pos h]
theorem qBd4 {w : List Int} {r : ByteArray} (h1 : ttE r = 0) (h2 : ttE (ttR r) = 0) : qBd 4 w r = (⟨4, w, { zN with text := ttS r }, { zN with text := ttS (ttR r) }⟩, ttR (ttR r), false) := by
  unfold qBd
  rw [if_neg (by decide), if_neg (by decide), if_pos rfl, if_neg (by rw [h1, h2]; simp)]
theorem qBd_no {k : Int} {w : List Int} {r : ByteArray} (h1 : ¬ k = 1) (h2 : ¬ k = 2) (h3 : ¬ k = 3) (h4 : ¬ k = 4) : qBd k w r = zQ := by
  unfold qBd; rw [if_neg (by rintro (q | q); exact h1 q; exact h2 q), if_neg h3, if_neg h4]
/-! ### The document's reader and the program's -/
theorem wy_of_p : ∀ {c : Nat} {b : ByteArray} {l : List Int} {r : List UInt8}, pWay c (kb b) = some (l, r) → wy c b = (l, bk r, true)
  | 0, b, l, r, h => by
    rw [pWay] at h
    injection h with h
    injection h with e1 e2
    subst e1; subst e2
    rw [wy, bk_kb]
  | c + 1, b, l, r, h => by
    rw [pWay] at h
    split at h
    · cases h
    rename_i n r1 h1
    split at h
    · cases h
    split at h
    · cases h
    rename_i l' z h2
    injection h with h
    injection h with e1 e2
    subst e1; subst e2
    obtain ⟨g1, g2, g3⟩ := tk_someD h1
    have := wy_of_p (b := bk r1) (by rw [kb_bk]; exact h2)
    rw [wy, g1, g2, g3, this]
    rfl
theorem p_of_wy : ∀ {c : Nat} {b : ByteArray}, (wy c b).2.2 = true → (∀ i ∈ (wy c b).1, i ≤ 300) → pWay c (kb b) = some ((wy c b).1, kb (wy c b).2.1)
  | 0, b, _, _ => rfl
  | c + 1, b, h, hi => by
    rw [wy] at h hi ⊢
    by_cases hE : tkE b = 0
    · rw [if_neg (fun q => q hE)] at h hi ⊢
      rw [pWay]
      cases h1 : takeN (kb b) with
      | none => exact absurd hE (tk_noneD h1)
      | some p =>
        obtain ⟨n, r⟩ := p
        obtain ⟨g1, g2, g3⟩ := tk_someD h1
        rw [g2, g3] at h hi ⊢
        dsimp only at h hi ⊢
        have hn := hi n (.head _)
        have := p_of_wy (b := bk r) h fun i q => hi i (.tail _ q)
        rw [kb_bk] at this
        rw [if_neg (by omega), this]
    · rw [if_pos hE] at h; cases h
theorem one_of {t : ByteArray} (h1 : rdE t = 0) (h2 : (rdL t).length = 1) : rdOne t = some (rd .node (rdL t) 0) := by
  obtain ⟨n, hn⟩ := List.length_eq_one_iff.1 h2
  unfold rdOne
  rw [if_pos h1, hn]; rfl
theorem of_one {t : ByteArray} {n : Nd} (h : rdOne t = some n) : rdE t = 0 ∧ (rdL t).length = 1 ∧ rd .node (rdL t) 0 = n := by
  unfold rdOne at h
  split at h
  · rename_i h1
    split at h
    · rename_i m hm
      injection h with h
      subst h
      rw [hm]
      exact ⟨h1, rfl, rfl⟩
    · cases h
  · cases h
theorem pNode_iff {r : ByteArray} {n : Nd} {z : List UInt8} (h : pNode (kb r) = some (n, z)) : ttE r = 0 ∧ rdE (ttS r) = 0 ∧ (rdL (ttS r)).length = 1 ∧ rd .node (rdL (ttS r)) 0 = n ∧ ttR r = bk z := by
  unfold pNode at h
  split at h
  · cases h
  rename_i t r1 h1
  split at h
  · cases h
  rename_i m h2
  injection h with h
  injection h with e1 e2
  subst e1; subst e2
  obtain ⟨g1, g2, g3⟩ := tt_someD h1
  rw [g1, g2, g3]
  obtain ⟨q1, q2, q3⟩ := of_one h2
  exact ⟨rfl, q1, q2, q3, rfl⟩
theorem pNode_of {r : ByteArray} (h1 : ttE r = 0) (h2 : rdE (ttS r) = 0) (h3 : (rdL (ttS r)).length = 1) : pNode (kb r) = some (rd .node (rdL (ttS r)) 0, kb (ttR r)) := by
  unfold pNode
  cases ht : takeT (kb r) with
  | none => have := tt_noneD ht; rw [h1] at this; cases this
  | some p =>
    obtain ⟨t, z⟩ := p
    obtain ⟨g1, g2, g3⟩ := tt_someD ht
    dsimp only
    rw [← g2, one_of h2 h3]
    dsimp only
    rw [g3, kb_bk]
theorem pAts_iff {r : ByteArray} {l : List At} {z : List UInt8} (h : pAts (kb r) = some (l, z)) : tlE r = 0 ∧ (tlL r).length % 2 = 0 ∧ prs (tlL r) = l ∧ tlR r = bk z := by
  unfold pAts at h
  split at h
  · cases h
  rename_i m r1 h1
  split at h
  · cases h
  injection h with h
  injection h with e1 e2
  subst e1; subst e2
  unfold tlE tlL tlR
  rw [h1]
  exact ⟨rfl, by dsimp only; omega, rfl, rfl⟩
theorem pAts_of {r : ByteArray} (h1 : tlE r = 0) (h2 : (tlL r).length % 2 = 0) : pAts (kb r) = some (prs (tlL r), kb (tlR r)) := by
  unfold pAts
  unfold tlE at h1
  unfold tlL at h2 ⊢
  unfold tlR
  cases ht : takeL (kb r) with
  | none => rw [ht] at h1; cases h1
  | some p =>
    obtain ⟨l, z⟩ := p
    rw [ht] at h2
    dsimp only at h2 ⊢
    rw [if_neg (by omega), kb_bk]
theorem qBd_of_p {k : Nat} {w : List Int} {r : ByteArray} {x : Ed} {z : List UInt8} (h : pBody k w (kb r) = some (x, z)) (h0 : 1 ≤ k) (h4 : k ≤ 4) : qBd k w r = (x, bk z, false) := by
  unfold pBody at h
  by_cases k1 : k = 1
  · subst k1
    rw [if_pos rfl] at h
    split at h
    · cases h
    rename_i n r1 h1
    injection h with h
    injection h with e1 e2
    subst e1; subst e2
    obtain ⟨g1, g2, g3, g4, g5⟩ := pNode_iff h1
    rw [show ((1 : Nat) : Int) = 1 from rfl, qBd1 g1 g2 g3, g4, g5]
  rw [if_neg k1] at h
  by_cases k2 : k = 2
  · subst k2
    rw [if_pos rfl] at h
    split at h
    · cases h
    rename_i n r1 h1
    injection h with h
    injection h with e1 e2
    subst e1; subst e2
    obtain ⟨g1, g2, g3, g4, g5⟩ := pNode_iff h1
    rw [show ((2 : Nat) : Int) = 2 from rfl, qBd2 g1 g2 g3, g4, g5]
  rw [if_neg k2] at h
  by_cases k3 : k = 3
  · subst k3
    rw [if_pos rfl] at h
    split at h
    · cases h
    rename_i l r1 h1
    split at h
    · cases h
    rename_i l2 r2 h2
    injection h with h
    injection h with e1 e2
    subst e1; subst e2
    obtain ⟨g1, g2, g3, g4⟩ := pAts_iff h1
    obtain ⟨i1, i2, i3, i4⟩ := pAts_iff (r := tlR r) (by rw [g4, kb_bk]; exact h2)
    rw [show ((3 : Nat) : Int) = 3 from rfl, qBd3 g1 i1 g2 i2, g3, i3, i4]
  rw [if_neg k3] at h
  have k4 : k = 4 := by omega
  subst k4
  rw [if_pos rfl] at h
  split at h
  · cases h
  rename_i l r1 h1
  split at h
  · cases h
  rename_i l2 r2 h2
  injection h with h
  injection h with e1 e2
  subst e1; subst e2
  obtain ⟨g1, g2, g3⟩ := tt_someD h1
  obtain ⟨i1, i2, i3⟩ := tt_someD (b := bk r1) (by rw [kb_bk]; exact h2)
  rw [show ((4 : Nat) : Int) = 4 from rfl, qBd4 g1 (by rw [g3]; exact i1), g2, g3, i2, i3]
theorem p_of_qBd {k : Nat} {w : List Int} {r : ByteArray} (h : (qBd k w r).2.2 = false) : 1 ≤ k ∧ k ≤ 4 ∧ pBody k w (kb r) = some ((qBd k w r).1, kb (qBd k w r).2.1) ∧ (qBd k w r).1.way = w ∧ fineEd (qBd k w r).1 := by
  have nt : ¬ (zQ.2.2 = false) := by decide
  unfold pBody
  by_cases k1 : k = 1
  · subst k1
    rw [show ((1 : Nat) : Int) = 1 from rfl] at h ⊢
    by_cases hh : ttE r ≠ 0 ∨ rdE (ttS r) ≠ 0 ∨ ¬ (rdL (ttS r)).length = 1
    · rw [qBd12_no (.inl rfl) hh] at h; exact absurd h nt
    · simp only [not_or, Decidable.not_not] at hh
      obtain ⟨a1, a2, a3⟩ := hh
      rw [qBd1 a1 a2 a3, if_pos rfl, pNode_of a1 a2 a3]
      refine ⟨by decide, by decide, rfl, rfl, fun _ => ?_, fun e => absurd (show (1 : Int) = 2 from e) (by decide)⟩
      exact (rdOne_inv (one_of a2 a3)).2.2
  rw [if_neg k1]
  by_cases k2 : k = 2
  · subst k2
    rw [show ((2 : Nat) : Int) = 2 from rfl] at h ⊢
    by_cases hh : ttE r ≠ 0 ∨ rdE (ttS r) ≠ 0 ∨ ¬ (rdL (ttS r)).length = 1
    · rw [qBd12_no (.inr rfl) hh] at h; exact absurd h nt
    · simp only [not_or, Decidable.not_not] at hh
      obtain ⟨a1, a2, a3⟩ := hh
      rw [qBd2 a1 a2 a3, if_pos rfl, pNode_of a1 a2 a3]
      refine ⟨by decide, by decide, rfl, rfl, fun e => absurd (show (2 : Int) = 1 from e) (by decide), fun _ => ?_⟩
      exact (rdOne_inv (one_of a2 a3)).2.2
  rw [if_neg k2]
  by_cases k3 : k = 3
  · subst k3
    rw [show ((3 : Nat) : Int) = 3 from rfl] at h ⊢
    by_cases hh : tlE r ≠ 0 ∨ tlE (tlR r) ≠ 0 ∨ (tlL r).length % 2 > 0 ∨ (tlL (tlR r)).length % 2 > 0
    · rw [qBd3_no rfl hh] at h; exact absurd h nt
    · simp only [not_or, Decidable.not_not] at hh
      obtain ⟨a1, a2, a3, a4⟩ := hh
      rw [qBd3 a1 a2 (by omega) (by omega), if_pos rfl, pAts_of a1 (by omega)]
      dsimp only
      rw [pAts_of a2 (by omega)]
      exact ⟨by decide, by decide, rfl, rfl, fun e => absurd (show (3 : Int) = 1 from e) (by decide), fun e => absurd (show (3 : Int) = 2 from e) (by decide)⟩
  rw [if_neg k3]
  by_cases k4 : k = 4
  · subst k4
    rw [show ((4 : Nat) : Int) = 4 from rfl] at h ⊢
    by_cases hh : ttE r ≠ 0 ∨ ttE (ttR r) ≠ 0
    · rw [qBd4_no rfl hh] at h; exact absurd h nt
    · simp only [not_or, Decidable.not_not] at hh
      obtain ⟨a1, a2⟩ := hh
      rw [qBd4 a1 a2, if_pos rfl]
      refine ⟨by decide, by decide, ?_, rfl, fun e => absurd (show (4 : Int) = 1 from e) (by decide), fun e => absurd (show (4 : Int) = 2 from e) (by decide)⟩
      cases ht : takeT (kb r) with
      | none => have := tt_noneD ht; rw [a1] at this; cases this
      | some p =>
        obtain ⟨t, z⟩ := p
        obtain ⟨g1, g2, g3⟩ := tt_someD ht
        dsimp only
        rw [g3] at a2 ⊢
        cases ht2 : takeT z with
        | none => have := tt_noneD (b := bk z) (by rw [kb_bk]; exact ht2); rw [a2] at this; cases this
        | some p =>
          obtain ⟨t2, z2⟩ := p
          obtain ⟨i1, i2, i3⟩ := tt_someD (b := bk z) (by rw [kb_bk]; exact ht2)
          dsimp only
          rw [g2, i2, i3, kb_bk]
  · rw [qBd_no (by omega) (by omega) (by omega) (by omega)] at h
    exact absurd h nt
theorem qEd_of_p {b : ByteArray} {x : Ed} {z : List UInt8} (h : pEd (kb b) = some (x, z)) (h0 : 1 ≤ x.what) : qEd b = (x, bk z, false) := by
  unfold pEd at h
  split at h
  · cases h
  rename_i k r0 h1
  split at h
  · cases h
  rename_i c r1 h2
  split at h
  · cases h
  rename_i hkc
  split at h
  · cases h
  rename_i w r2 h3
  obtain ⟨g1, g2, g3⟩ := tk_someD h1
  obtain ⟨i1, i2, i3⟩ := tk_someD (b := bk r0) (by rw [kb_bk]; exact h2)
  have hw := wy_of_p (b := bk r1) (by rw [kb_bk]; exact h3)
  have hk := (pBody_inv h).1
  have hq := qBd_of_p (r := bk r2) (by rw [kb_bk]; exact h) (by omega) (by omega)
  unfold qEd
  rw [g1, g2, g3, i1, i2, i3, Int.toNat_natCast, hw, if_neg (by omega), if_pos rfl]
  exact hq
theorem p_of_qEd {b : ByteArray} (h : (qEd b).2.2 = false) : fineEd (qEd b).1 ∧ ((∀ i ∈ (qEd b).1.way, i ≤ 300) → pEd (kb b) = some ((qEd b).1, kb (qEd b).2.1)) := by
  have nt : ¬ (zQ.2.2 = false) := by decide
  unfold qEd at h ⊢
  split at h
  · exact absurd h nt
  rename_i hE
  rw [if_neg hE]
  split at h
  · rename_i hw
    rw [if_pos hw]
    simp only [not_or, Decidable.not_not] at hE
    obtain ⟨a1, a2, a3⟩ := hE
    cases h1 : takeN (kb b) with
    | none => exact absurd a1 (tk_noneD h1)
    | some p =>
      obtain ⟨k, r0⟩ := p
      obtain ⟨g1, g2, g3⟩ := tk_someD h1
      rw [g3] at a2 a3 hw h ⊢
      rw [g2] at h ⊢
      cases h2 : takeN r0 with
      | none => exact absurd a2 (tk_noneD (b := bk r0) (by rw [kb_bk]; exact h2))
      | some p =>
        obtain ⟨c, r1⟩ := p
        obtain ⟨i1, i2, i3⟩ := tk_someD (b := bk r0) (by rw [kb_bk]; exact h2)
        rw [i2] at a3 hw h ⊢
        rw [i3, Int.toNat_natCast] at hw h ⊢
        obtain ⟨q1, q2, q3, q4, q5⟩ := p_of_qBd h
        refine ⟨q5, fun hi => ?_⟩
        rw [q4] at hi
        have hp := p_of_wy hw hi
        rw [kb_bk] at hp
        unfold pEd
        rw [h1]
        dsimp only
        rw [h2]
        dsimp only
        rw [if_neg (by omega), hp]
        exact q3
  · exact absurd h nt
theorem qEds_of_p : ∀ {c : Nat} {b : ByteArray} {s : List Ed} {z : List UInt8}, pEds c (kb b) = some (s, z) → (∀ x ∈ s, 1 ≤ x.what) → qEds c b = (s, bk z, true)
  | 0, b, s, z, h, _ => by
    rw [pEds] at h
    injection h with h
    injection h with e1 e2
    subst e1; subst e2
    rw [qEds, bk_kb]
  | c + 1, b, s, z, h, hw => by
    rw [pEds] at h
    split at h
    · cases h
    rename_i x r1 h1
    split at h
    · cases h
    rename_i l' z' h2
    injection h with h
    injection h with e1 e2
    subst e1; subst e2
    have q1 := qEd_of_p h1 (hw _ (.head _))
    have q2 := qEds_of_p (b := bk r1) (by rw [kb_bk]; exact h2) fun y hy => hw y (.tail _ hy)
    rw [qEds, q1]
    dsimp only
    rw [if_neg (by decide), q2]
theorem p_of_qEds : ∀ {c : Nat} {b : ByteArray}, (qEds c b).2.2 = true → fineEds (qEds c b).1 ∧ ((∀ x ∈ (qEds c b).1, ∀ i ∈ x.way, i ≤ 300) → pEds c (kb b) = some ((qEds c b).1, kb (qEds c b).2.1))
  | 0, b, _ => ⟨fun x hx => (nomatch hx), fun _ => rfl⟩
  | c + 1, b, h => by
    rw [qEds] at h ⊢
    by_cases hE : (qEd b).2.2 = true
    · rw [if_pos hE] at h; cases h
    · rw [if_neg hE] at h ⊢
      have hE : (qEd b).2.2 = false := by simpa using hE
      obtain ⟨g1, g2⟩ := p_of_qEd hE
      obtain ⟨g3, g4⟩ := p_of_qEds (b := (qEd b).2.1) h
      refine ⟨fun x hx => ?_, fun hi => ?_⟩
      · cases hx with
        | head => exact g1
        | tail _ hx => exact g3 x hx
      · rw [pEds, g2 (hi _ (.head _))]
        dsimp only
        rw [g4 fun x hx => hi x (.tail _ hx)]
theorem q_yes {b : ByteArray} (h1 : tkE b = 0) (h2 : ¬ tkN b > 400) (h3 : (qEds (tkN b).toNat (tkR b)).2.2 = true) (h4 : eqS (qEds (tkN b).toNat (tkR b)).2.1 ⟨#[]⟩ = true) (h5 : dchkS (qEds (tkN b).toNat (tkR b)).1 = 0) : dlL b = (qEds (tkN b).toNat (tkR b)).1 ∧ dlE b = 0 := by
  obtain ⟨_, c2⟩ := dchk_zero h5
  have hp := (p_of_qEds h3).2 fun x hx i hi => ((plain_ok (c2 x hx)).1.at_ i hi).2
  cases ht : takeN (kb b) with
  | none => exact absurd h1 (tk_noneD ht)
  | some p =>
    obtain ⟨n, r⟩ := p
    obtain ⟨_, g2, g3⟩ := tk_someD ht
    rw [g2] at h2
    rw [g2, g3, Int.toNat_natCast] at hp h4 h5 ⊢
    rw [kb_bk] at hp
    have hr := eqS_bk h4
    rw [hr, kb_bk] at hp
    have hd := dDel_ok.2 b
    have hpd : pDel (kb b) = some ((qEds n (bk r)).1, []) := by
      unfold pDel
      rw [ht]
      dsimp only
      rw [if_neg (by omega), hp]
    rw [hpd] at hd
    have hd : dDel ⟨b, false⟩ = ((qEds n (bk r)).1, ⟨bk [], false⟩) := hd
    have ok : dlOK b = true := by
      unfold dlOK
      rw [hd, h5]
      dsimp only
      rw [show eqS (bk []) ⟨#[]⟩ = true from eqS_iff.2 rfl]; rfl
    unfold dlL dlE
    rw [if_pos ok, if_pos ok, hd]
    exact ⟨rfl, rfl⟩
theorem q_back {b : ByteArray} (h : dlOK b = true) : tkE b = 0 ∧ ¬ tkN b > 400 ∧ (qEds (tkN b).toNat (tkR b)).2.2 = true ∧ eqS (qEds (tkN b).toNat (tkR b)).2.1 ⟨#[]⟩ = true ∧ dchkS (qEds (tkN b).toNat (tkR b)).1 = 0 := by
  unfold dlOK at h
  simp only [Bool.and_eq_true, Bool.not_eq_true', beq_iff_eq] at h
  obtain ⟨⟨h1, h2⟩, h3⟩ := h
  have hd := dDel_ok.2 b
  cases hq : pDel (kb b) with
  | none =>
    rw [hq] at hd
    have hd : (dDel ⟨b, false⟩).2.bad = true := hd
    rw [h1] at hd; cases hd
  | some p =>
    obtain ⟨s, z⟩ := p
    rw [hq] at hd
    have hd : dDel ⟨b, false⟩ = (s, ⟨bk z, false⟩) := hd
    rw [hd] at h2 h3
    dsimp only at h2 h3
    obtain ⟨_, c2⟩ := dchk_zero h3
    unfold pDel at hq
    split at hq
    · cases hq
    rename_i n r ht
    split at hq
    · cases hq
    obtain ⟨g1, g2, g3⟩ := tk_someD ht
    have := qEds_of_p (b := bk r) (by rw [kb_bk]; exact hq) fun x hx => (plain_ok (c2 x hx)).1.w0
    rw [g1, g2, g3, Int.toNat_natCast, this]
    exact ⟨rfl, by omega, rfl, h2, h3⟩
theorem q_no {b : ByteArray} (h : ¬ (tkE b = 0 ∧ ¬ tkN b > 400 ∧ (qEds (tkN b).toNat (tkR b)).2.2 = true ∧ eqS (qEds (tkN b).toNat (tkR b)).2.1 ⟨#[]⟩ = true ∧ dchkS (qEds (tkN b).toNat (tkR b)).1 = 0)) : dlL b = [] ∧ dlE b = 4 := by
  unfold dlL dlE
  have : ¬ dlOK b = true := fun q => h (q_back q)
  rw [if_neg this, if_neg this]
  exact ⟨rfl, rfl⟩
theorem stpR_none {c : Nat} {r : ByteArray} (h : takeT (kb r) = none) : bk (stpR (c + 1) (kb r)) = r := by rw [stpR, h]; exact bk_kb r
theorem stpR_some {c : Nat} {r : ByteArray} {x z : List UInt8} (h : takeT (kb r) = some (x, z)) : stpR (c + 1) (kb r) = stpR c z := by rw [stpR, h]
theorem dl_len (b : ByteArray) : (dlL b).length ≤ 400 := by
  unfold dlL
  split
  · rename_i h
    unfold dlOK at h
    simp only [Bool.and_eq_true, beq_iff_eq] at h
    exact (dchk_zero h.2).1
  · exact Nat.zero_le _
end Go.Proofs.YtnhipiedjekkpaaGreatDoor.AXP
namespace Go.Proofs.YtnhipiedjekkpaaGreatDoor.AX
open Go AXP
set_option maxRecDepth 100000
def blTL (z0 z4 n e o0 o4 : Int) (z1 z3 o1 r : ByteArray) : List ByteArray → List Blk
  | [] => [.box [.int .i64 z0, .str z1, .nil, .str z3, .int .i64 z4], .box [.int .i64 n, .int .i64 e], .box [.int .i64 o0, .str o1, .nil, .str r, .int .i64 o4]]
  | x :: l => [.box [.int .i64 z0, .str z1, .nil, .str z3, .int .i64 z4], .box [.int .i64 n, .int .i64 e], .box [.int .i64 o0, .str o1, .own 3 0, .str r, .int .i64 o4], .rowb 0 .str (x :: l)]
def blTo (z0 z4 o0 o4 : Int) (z1 z3 o1 r : ByteArray) : List ByteArray → List Blk
  | [] => [.box [.int .i64 z0, .str z1, .nil, .str z3, .int .i64 z4], .box [.int .i64 o0, .str o1, .nil, .str r, .int .i64 o4]]
  | x :: l => [.box [.int .i64 z0, .str z1, .nil, .str z3, .int .i64 z4], .box [.int .i64 o0, .str o1, .own 2 0, .str r, .int .i64 o4], .rowb 0 .str (x :: l)]
theorem tkL1_sum : SumOK cxTkL1 (LL Tryz.f72 [lsTkL1]) Tryz.f72.ntmps (loopAt Tryz.f72 0).1 (loopAt Tryz.f72 0).2 lsTkL1 := by
  intro vs bs K hs
  unfold lsTkL1 at hs
  simp only at hs
  split at hs
  case h_2 => exact hs.elim
  rename_i i z0 z1 z3 z4 n e o0 o1 r o4
  obtain ⟨⟨rfl, hn0, hn⟩, h⟩ := hs
  obtain ⟨n, rfl⟩ := Int.eq_ofNat_of_zero_le hn0
  rw [Int.toNat_natCast] at h
  have hy : ∀ l b, txsOK n (kb r) = true → txsV n (kb r) = l → txsR n (kb r) = b → K (.exit 0) [.ptr 0 0, .ptr 1 0] (blTo z0 z4 o0 o4 z1 z3 o1 b l) := fun l b q1 q2 q3 => by
    have := h.yes q1
    rw [q2, q3] at this
    cases l with
    | nil => exact this.yes rfl
    | cons x l => exact this.no rfl
  have hn' : ∀ l b, txsOK n (kb r) = false → stpT n (kb r) = l → bk (stpR n (kb r)) = b → K .ret [.ptr 0 0, .ptr 1 0] (blTo 0 4 o0 o4 ⟨#[]⟩ ⟨#[]⟩ o1 b l) := fun l b q1 q2 q3 => by
    have := h.no q1
    rw [q2, q3] at this
    cases l with
    | nil => exact this.yes rfl
    | cons x l => exact this.no rfl
  clear h
  refine sum_rec (σ := Nat × ByteArray × List ByteArray) (fun s => [.ptr 0 0, .ptr 1 0, .ptr 2 0, .int .i64 (s.1 : Nat)]) (fun s => blTL z0 z4 n e o0 o4 z1 z3 o1 s.2.1 s.2.2)
    (fun s => s.1 ≤ n ∧ s.2.2.length = s.1 ∧ txsOK (n - s.1) (kb s.2.1) = txsOK n (kb r) ∧ s.2.2 ++ stpT (n - s.1) (kb s.2.1) = stpT n (kb r) ∧ stpR (n - s.1) (kb s.2.1) = stpR n (kb r) ∧ (txsOK n (kb r) = true → s.2.2 ++ txsV (n - s.1) (kb s.2.1) = txsV n (kb r) ∧ txsR (n - s.1) (kb s.2.1) = txsR n (kb r))) (fun s => n - s.1) ?_ (0, r, []) ⟨Nat.zero_le _, rfl, rfl, rfl, rfl, fun _ => ⟨rfl, rfl⟩⟩
  rintro ⟨i, b, acc⟩ ⟨h1, h2, h3, h4, h6, h5⟩ R hR
  dsimp only at h1 h2 h3 h4 h5 h6 hR ⊢
  have hmx : maxSl = 140737488355328 := rfl
  have fin : ¬ (i : Int) < n → K (.exit 0) [.ptr 0 0, .ptr 1 0] (blTo z0 z4 o0 o4 z1 z3 o1 b acc) := fun q => by
    have e0 : n - i = 0 := by omega
    rw [e0] at h3 h5
    have hk : txsOK n (kb r) = true := h3.symm
    obtain ⟨l1, l2⟩ := h5 hk
    exact hy _ _ hk (by rw [← l1]; exact List.append_nil _) (by rw [← l2]; exact bk_kb b)
  have go : (i : Int) < n → (ttE b ≠ 0 → K .ret [.ptr 0 0, .ptr 1 0] (blTo 0 4 o0 o4 ⟨#[]⟩ ⟨#[]⟩ o1 b acc)) ∧ (ttE b = 0 → R [.ptr 0 0, .ptr 1 0, .ptr 2 0, .int .i64 (IntKind.i64.wrap ((i : Int) + 1))] (blTL z0 z4 n e o0 o4 z1 z3 o1 (ttR b) (acc ++ [ttS b]))) := fun q => by
    obtain ⟨c, hc⟩ : ∃ c, n - i = c + 1 := ⟨n - i - 1, by omega⟩
    rw [hc] at h3 h4 h5 h6
    cases ht : takeT (kb b) with
    | none =>
      obtain ⟨g1, g2, g3, g4⟩ := txs_none (c := c) ht
      rw [g1] at h3
      rw [g2, List.append_nil] at h4
      refine ⟨fun _ => hn' _ _ h3.symm h4.symm ?_, fun q2 => absurd q2 g3⟩
      rw [← h6]; exact stpR_none ht
    | some p =>
      obtain ⟨x, z⟩ := p
      obtain ⟨g1, g2, g3, g4, g5, g6⟩ := txs_some (c := c) ht
      refine ⟨fun q2 => absurd g3 q2, fun _ => ?_⟩
      rw [g4, g5]
      have ew : IntKind.i64.wrap ((i : Int) + 1) = ((i + 1 : Nat) : Int) := by rw [wrap_id'] <;> omega
      rw [ew]
      rw [g1] at h3
      refine hR (i + 1, bk z, acc ++ [bk x]) ⟨by dsimp only; omega, ?_, ?_, ?_, ?_, fun hk => ?_⟩ (by dsimp only; omega)
      · dsimp only; rw [List.length_append]; simp only [List.length_cons, List.length_nil]; omega
      · dsimp only; rw [show n - (i + 1) = c by omega, kb_bk]; exact h3
      · dsimp only; rw [show n - (i + 1) = c by omega, kb_bk, List.append_assoc]; rw [g2] at h4; exact h4
      · dsimp only; rw [show n - (i + 1) = c by omega, kb_bk]; rw [stpR_some ht] at h6; exact h6
      · dsimp only
        obtain ⟨k1, k2⟩ := g6 (by rw [h3]; exact hk)
        obtain ⟨l1, l2⟩ := h5 hk
        rw [show n - (i + 1) = c by omega, kb_bk, List.append_assoc]
        rw [k1] at l1
        rw [k2] at l2
        exact ⟨l1, l2⟩
  cases acc with
  | nil =>
    refine Eq.mpr (vcTkL1B0 i z0 z4 n e o0 o4 z1 z3 o1 b _) ⟨fun q => ⟨fun q2 => (go (of_decide_eq_true q)).1 (by simpa using q2), fun q2 => Rq.mk (show 1 * 16 ≤ maxSl by decide) ((go (of_decide_eq_true q)).2 (by simpa using q2))⟩, fun q => fin (of_decide_eq_false q)⟩
  | cons x l =>
    refine Eq.mpr (vcTkL1B1 i z0 z4 n e o0 o4 z1 z3 o1 b (x :: l) _) ⟨fun q => ⟨fun q2 => (go (of_decide_eq_true q)).1 (by simpa using q2), fun q2 => Rq.mk ?_ ((go (of_decide_eq_true q)).2 (by simpa using q2))⟩, fun q => fin (of_decide_eq_false q)⟩
    simp only [List.length_cons, List.length_nil] at h2 ⊢; omega
theorem tkL1_holds : Holds 72 conTkL1 := conP_holds fun b => by
  rcases (show ∃ w : ByteArray, w = b from ⟨_, rfl⟩) with ⟨b, rfl⟩
  refine fun_meets1 (AllH.tok (.cons nu1_holds (by kernel_rfl) (.cons tkT1_holds (by kernel_rfl) .nil))) [.as, .as, .row .str, .as, .as] lsTkL1 (by kernel_rfl) (by kernel_rfl) tkL1_sum fun _ => Eq.mpr (vcTkL1F b _) ?_
  have fin : ∀ l r e, tlL b = l ∧ tlR b = r ∧ tlE b = e → FinQ { res := .agg [.int .i64 0, .str ⟨#[]⟩, .row .str (tlL b), .str (tlR b), .int .i64 (tlE b)] } [AV.agg [AV.int .i64 0, AV.str ⟨#[]⟩, AV.row .str l, AV.str r, AV.int .i64 e]] [] [] := fun l r e h => qfin rfl (by rw [h.1, h.2.1, h.2.2]; rfl) rfl rfl
  cases ht : takeN (kb b) with
  | none =>
    have e1 : tkEnd b = -1 := by unfold tkEnd; rw [ht]
    rw [e1]
    exact Rq.mk rfl ⟨fun _ => fin _ _ _ (tl_bad (.inl (tk_noneD ht))), fun h => absurd h (by decide)⟩
  | some p =>
    obtain ⟨n, r⟩ := p
    obtain ⟨hb, hn⟩ := take_num_inv ht
    have hl := congrArg List.length hb
    rw [kb_size, List.length_append] at hl
    have e1 : tkEnd b = ((numL n).length : Int) := by unfold tkEnd; rw [ht]; show ((b.size - r.length : Nat) : Int) = _; omega
    obtain ⟨g1, g2, g3⟩ := tk_someD ht
    have hx : b.extract (numL n).length b.size = tkR b := by
      rw [g3]
      apply kb_inj
      rw [kb_ext, List.take_of_length_le (by rw [kb_size]; exact Nat.le_refl _), hb, List.drop_left, kb_bk]
    rw [e1, Int.toNat_natCast, Int.toNat_natCast, hx]
    refine Rq.mk rfl ⟨fun h => absurd (of_decide_eq_true h) (by omega), fun _ => ⟨fun h => fin _ _ _ (tl_bad (.inr (.inl (of_decide_eq_true h)))), fun h => Rq.mk ⟨by omega, by omega, by omega⟩ (Rq.mk ⟨rfl, by omega, by have := of_decide_eq_false h; omega⟩ ⟨fun h1 => ⟨fun h2 => ?_, fun _ => fin _ _ _ (tl_good g1 (of_decide_eq_false h) h1)⟩, fun h1 => ⟨fun _ => fin _ _ _ (tl_bad (.inr (.inr h1))), fun _ => fin _ _ _ (tl_bad (.inr (.inr h1)))⟩⟩)⟩⟩
    obtain ⟨q1, q2, q3⟩ := tl_good g1 (of_decide_eq_false h) h1
    refine fin _ _ _ ⟨?_, q2, q3⟩
    rw [q1]
    exact List.eq_nil_of_length_eq_zero (by simpa using h2)
theorem prs_sum : SumOK cx0 (LL Tryz.f73 [lsPrs]) Tryz.f73.ntmps (loopAt Tryz.f73 0).1 (loopAt Tryz.f73 0).2 lsPrs := by
  intro vs bs K hs
  unfold lsPrs at hs
  simp only at hs
  split at hs
  case h_2 => exact hs.elim
  rename_i l i o
  rcases (show ∃ w : List ByteArray, w = l from ⟨_, rfl⟩) with ⟨l, rfl⟩
  obtain ⟨⟨rfl, ho, hl⟩, h⟩ := hs
  obtain rfl : o = [] := List.eq_nil_of_length_eq_zero ho
  have hmx : maxSl = 140737488355328 := rfl
  refine sum_rec (σ := Nat × List At) (fun s => [.own 0 0, .row .str l, .int .i64 (2 * s.1 : Nat)]) (fun s => [.rowb 0 .attr s.2]) (fun s => 2 * s.1 ≤ l.length ∧ s.2 ++ prs (l.drop (2 * s.1)) = prs l ∧ s.2.length = s.1) (fun s => l.length - 2 * s.1) ?_ (0, []) ⟨Nat.zero_le _, rfl, rfl⟩
  rintro ⟨i, acc⟩ ⟨hi, he, ha⟩ R hR
  dsimp only at hi he ha hR ⊢
  have ew : IntKind.i64.wrap (((2 * i : Nat) : Int) + 1) = ((2 * i + 1 : Nat) : Int) := by rw [wrap_id'] <;> omega
  have ew2 : IntKind.i64.wrap (((2 * i : Nat) : Int) + 2) = ((2 * (i + 1) : Nat) : Int) := by rw [wrap_id'] <;> omega
  refine Eq.mpr (vcPrsB acc l (2 * i : Nat) _) ⟨fun _ => ?_⟩
  rw [ew, ew2]
  refine ⟨fun h1 => ?_, fun h1 => ?_⟩
  · have h1 := of_decide_eq_true h1
    have hlt : 2 * i + 1 < l.length := by omega
    have g1 : rd .str l ((2 * i : Nat) : Int) = l[2 * i] := rd_get (t := .str) (by omega)
    have g2 : rd .str l ((2 * i + 1 : Nat) : Int) = l[2 * i + 1] := rd_get (t := .str) hlt
    rw [g1, g2]
    rw [prs_step hlt] at he
    refine Rq.mk ⟨by omega, by omega⟩ (Rq.mk ⟨by omega, by omega⟩ (Rq.mk (by simp only [List.length_cons, List.length_nil]; omega) ?_))
    refine hR (i + 1, acc ++ [⟨l[2 * i], l[2 * i + 1]⟩]) ⟨by dsimp only; omega, ?_, ?_⟩ (by dsimp only; omega)
    · dsimp only
      rw [List.append_assoc, show 2 * (i + 1) = 2 * i + 2 by omega]; exact he
    · dsimp only
      rw [List.length_append]; simp only [List.length_cons, List.length_nil]; omega
  · have h1 := of_decide_eq_false h1
    have e0 : prs (l.drop (2 * i)) = [] := List.eq_nil_of_length_eq_zero (by rw [prs_len, List.length_drop]; omega)
    rw [e0, List.append_nil] at he
    rw [he]
    exact h
theorem prs_holds : Holds 73 conPrs := conP_holds fun l => by
  rcases (show ∃ w : List ByteArray, w = l from ⟨_, rfl⟩) with ⟨l, rfl⟩
  refine fun_meets1 tok0 [.row .attr] lsPrs (by kernel_rfl) (by kernel_rfl) prs_sum fun hpre => Eq.mpr (vcPrsF l _) ?_
  exact Rq.mk ⟨rfl, rfl, hpre _ rfl⟩ (qfin rfl rfl rfl rfl)
theorem rd8N_holds : Holds 71 conRd8N := conP_holds fun b => by
  rcases (show ∃ w : ByteArray, w = b from ⟨_, rfl⟩) with ⟨b, rfl⟩
  intro F I w vals hH hv hpre
  have hb : b.size ≤ 900000 := hpre _ rfl
  have e := rd_same (b := b)
  have := rd8_holds [.str b] [] { pre := some (r8Pre b), res := .tup [.row .node (r8L b), .int .i64 (r8E b)] } rfl F I w vals hH hv (fun p hp => by injection hp with hp; subst hp; exact r8_pre hb)
  rw [← e.1, ← e.2] at this
  exact this
def blTk (z0 z1 z2 z5 z6 w0 w4 c c4 k o0 o1 n0 n1 : Int) (z3 z4 z7 z8 z9 w1 w3 c1 c3 o2 o4 n2 n4 b : ByteArray) (w2 c2 : List ByteArray) (z10 e : Bool) : List Int → List Blk
  | [] => [.box [.int .i64 z0, .nil, .int .i64 z1, .int .i64 z2, .str z3, .nil, .str z4, .nil, .int .i64 z5, .int .i64 z6, .str z7, .nil, .str z8, .nil, .str z9, .bool z10], .box [.int .i64 w0, .str w1, .row .str w2, .str w3, .int .i64 w4], .box [.int .i64 c, .str c1, .row .str c2, .str c3, .int .i64 c4], .box [.int .i64 k, .nil, .int .i64 o0, .int .i64 o1, .str o2, .nil, .str o4, .nil, .int .i64 n0, .int .i64 n1, .str n2, .nil, .str n4, .nil, .str b, .bool e]]
  | x :: v => [.box [.int .i64 z0, .nil, .int .i64 z1, .int .i64 z2, .str z3, .nil, .str z4, .nil, .int .i64 z5, .int .i64 z6, .str z7, .nil, .str z8, .nil, .str z9, .bool z10], .box [.int .i64 w0, .str w1, .row .str w2, .str w3, .int .i64 w4], .box [.int .i64 c, .str c1, .row .str c2, .str c3, .int .i64 c4], .box [.int .i64 k, .own 4 0, .int .i64 o0, .int .i64 o1, .str o2, .nil, .str o4, .nil, .int .i64 n0, .int .i64 n1, .str n2, .nil, .str n4, .nil, .str b, .bool e], .rowb 0 .int (x :: v)]
def blTj (z0 z1 z2 z5 z6 w0 w4 k o0 o1 n0 n1 : Int) (z3 z4 z7 z8 z9 w1 w3 o2 o4 n2 n4 b : ByteArray) (w2 : List ByteArray) (z10 e : Bool) : List Int → List Blk
  | [] => [.box [.int .i64 z0, .nil, .int .i64 z1, .int .i64 z2, .str z3, .nil, .str z4, .nil, .int .i64 z5, .int .i64 z6, .str z7, .nil, .str z8, .nil, .str z9, .bool z10], .box [.int .i64 w0, .str w1, .row .str w2, .str w3, .int .i64 w4], .box [.int .i64 k, .nil, .int .i64 o0, .int .i64 o1, .str o2, .nil, .str o4, .nil, .int .i64 n0, .int .i64 n1, .str n2, .nil, .str n4, .nil, .str b, .bool e]]
  | x :: v => [.box [.int .i64 z0, .nil, .int .i64 z1, .int .i64 z2, .str z3, .nil, .str z4, .nil, .int .i64 z5, .int .i64 z6, .str z7, .nil, .str z8, .nil, .str z9, .bool z10], .box [.int .i64 w0, .str w1, .row .str w2, .str w3, .int .i64 w4], .box [.int .i64 k, .own 3 0, .int .i64 o0, .int .i64 o1, .str o2, .nil, .str o4, .nil, .int .i64 n0, .int .i64 n1, .str n2, .nil, .str n4, .nil, .str b, .bool e], .rowb 0 .int (x :: v)]
theorem tokTake : TOK cxTake := AllH.tok (.cons tkN1_holds (by kernel_rfl) (.cons tkT1_holds (by kernel_rfl) (.cons tkL1_holds (by kernel_rfl) (.cons rd8N_holds (by kernel_rfl) (.cons prs_holds (by kernel_rfl) .nil)))))
theorem take_sum : SumOK cxTake (LL Tryz.f35 [lsTake]) Tryz.f35.ntmps (loopAt Tryz.f35 0).1 (loopAt Tryz.f35 0).2 lsTake := by
  intro vs bs K hs
  unfold lsTake at hs
  simp only at hs
  split at hs
  case h_2 => exact hs.elim
  rename_i i z0 z1 z2 z3 z4 z5 z6 z7 z8 z9 z10 w0 w1 w2 w3 w4 c c1 c2 c3 c4 k o0 o1 o2 o4 n0 n1 n2 n4 b e
  obtain ⟨⟨rfl, hc0, hc⟩, h⟩ := hs
  obtain ⟨c, rfl⟩ := Int.eq_ofNat_of_zero_le hc0
  rw [Int.toNat_natCast] at h
  have hy : (wy c b).2.2 = true → K (.exit 0) [.ptr 0 0, .ptr 1 0, .ptr 2 0] (blTj z0 z1 z2 z5 z6 w0 w4 k o0 o1 n0 n1 z3 z4 z7 z8 z9 w1 w3 o2 o4 n2 n4 (wy c b).2.1 w2 z10 e (wy c b).1) := fun q1 => by
    have := h.yes q1
    generalize (wy c b).1 = l at this ⊢
    cases l with
    | nil => exact this.yes rfl
    | cons x l => exact this.no rfl
  have hn' : (wy c b).2.2 = false → K .ret [.ptr 0 0, .ptr 1 0, .ptr 2 0] (blTj 0 0 0 0 0 w0 w4 k o0 o1 n0 n1 ⟨#[]⟩ ⟨#[]⟩ ⟨#[]⟩ ⟨#[]⟩ ⟨#[]⟩ w1 w3 o2 o4 n2 n4 (wy c b).2.1 w2 true e (wy c b).1) := fun q1 => by
    have := h.no q1
    generalize (wy c b).1 = l at this ⊢
    cases l with
    | nil => exact this.yes rfl
    | cons x l => exact this.no rfl
  clear h
  refine sum_rec (σ := Nat × ByteArray × List Int) (fun s => [.ptr 0 0, .ptr 1 0, .ptr 2 0, .ptr 3 0, .int .i64 (s.1 : Nat)]) (fun s => blTk z0 z1 z2 z5 z6 w0 w4 c c4 k o0 o1 n0 n1 z3 z4 z7 z8 z9 w1 w3 c1 c3 o2 o4 n2 n4 s.2.1 w2 c2 z10 e s.2.2)
    (fun s => s.1 ≤ c ∧ s.2.2.length = s.1 ∧ s.2.2 ++ (wy (c - s.1) s.2.1).1 = (wy c b).1 ∧ (wy (c - s.1) s.2.1).2 = (wy c b).2) (fun s => c - s.1) ?_ (0, b, []) ⟨Nat.zero_le _, rfl, rfl, rfl⟩
  rintro ⟨i, r, acc⟩ ⟨h1, h2, h3, h4⟩ R hR
  dsimp only at h1 h2 h3 h4 hR ⊢
  have hmx : maxSl = 140737488355328 := rfl
  have fin : ¬ (i : Int) < c → K (.exit 0) [.ptr 0 0, .ptr 1 0, .ptr 2 0] (blTj z0 z1 z2 z5 z6 w0 w4 k o0 o1 n0 n1 z3 z4 z7 z8 z9 w1 w3 o2 o4 n2 n4 r w2 z10 e acc) := fun q => by
    have e0 : c - i = 0 := by omega
    rw [e0] at h3 h4
    have h3 : acc ++ [] = (wy c b).1 := h3
    have h4 : (r, true) = (wy c b).2 := h4
    rw [List.append_nil] at h3
    have := hy (by rw [← h4])
    rw [← h3, ← h4] at this
    exact this
  have go : (i : Int) < c → (tkE r ≠ 0 → K .ret [.ptr 0 0, .ptr 1 0, .ptr 2 0] (blTj 0 0 0 0 0 w0 w4 k o0 o1 n0 n1 ⟨#[]⟩ ⟨#[]⟩ ⟨#[]⟩ ⟨#[]⟩ ⟨#[]⟩ w1 w3 o2 o4 n2 n4 r w2 true e acc)) ∧ (tkE r = 0 → R [.ptr 0 0, .ptr 1 0, .ptr 2 0, .ptr 3 0, .int .i64 (IntKind.i64.wrap ((i : Int) + 1))] (blTk z0 z1 z2 z5 z6 w0 w4 c c4 k o0 o1 n0 n1 z3 z4 z7 z8 z9 w1 w3 c1 c3 o2 o4 n2 n4 (tkR r) w2 c2 z10 e (acc ++ [tkN r]))) := fun q => by
    obtain ⟨d, hd⟩ : ∃ d, c - i = d + 1 := ⟨c - i - 1, by omega⟩
    rw [hd, wy] at h3 h4
    refine ⟨fun q2 => ?_, fun q2 => ?_⟩
    · rw [if_pos q2] at h3 h4
      have h3 : acc ++ [] = (wy c b).1 := h3
      have h4 : (r, false) = (wy c b).2 := h4
      rw [List.append_nil] at h3
      have := hn' (by rw [← h4])
      rw [← h3, ← h4] at this
      exact this
    · rw [if_neg (fun z => z q2)] at h3 h4
      have ew : IntKind.i64.wrap ((i : Int) + 1) = ((i + 1 : Nat) : Int) := by rw [wrap_id'] <;> omega
      rw [ew]
      refine hR (i + 1, tkR r, acc ++ [tkN r]) ⟨by dsimp only; omega, ?_, ?_, ?_⟩ (by dsimp only; omega)
      · dsimp only; rw [List.length_append]; simp only [List.length_cons, List.length_nil]; omega
      · dsimp only; rw [show c - (i + 1) = d by omega, List.append_assoc]; exact h3
      · dsimp only; rw [show c - (i + 1) = d by omega]; exact h4
  cases acc with
  | nil =>
    refine Eq.mpr (vcTakeB0 i z0 z1 z2 z5 z6 w0 w4 c c4 k o0 o1 n0 n1 z3 z4 z7 z8 z9 w1 w3 c1 c3 o2 o4 n2 n4 r w2 c2 z10 e _) ⟨fun q => ⟨fun q2 => (go (of_decide_eq_true q)).1 (by simpa using q2), fun q2 => Rq.mk (show 1 * 8 ≤ maxSl by decide) ((go (of_decide_eq_true q)).2 (by simpa using q2))⟩, fun q => fin (of_decide_eq_false q)⟩
  | cons x l =>
    refine Eq.mpr (vcTakeB1 i z0 z1 z2 z5 z6 w0 w4 c c4 k o0 o1 n0 n1 z3 z4 z7 z8 z9 w1 w3 c1 c3 o2 o4 n2 n4 r w2 c2 z10 e (x :: l) _) ⟨fun q => ⟨fun q2 => (go (of_decide_eq_true q)).1 (by simpa using q2), fun q2 => Rq.mk ?_ ((go (of_decide_eq_true q)).2 (by simpa using q2))⟩, fun q => fin (of_decide_eq_false q)⟩
    simp only [List.length_cons, List.length_nil] at h2 ⊢; omega
theorem take_holds : Holds 35 conTake := conP_holds fun b => by
  rcases (show ∃ w : ByteArray, w = b from ⟨_, rfl⟩) with ⟨b, rfl⟩
  refine fun_meets1 tokTake [.as, .row .int, .as, .as, .as, .row .attr, .as, .row .node, .as, .as, .as, .row .attr, .as, .row .node, .as, .as] lsTake (by kernel_rfl) (by kernel_rfl) take_sum fun _ => Eq.mpr (vcTakeF b _) ?_
  have fin : ∀ x r e, qEd b = (x, r, e) → FinQ { res := .agg (editL (qEd b).1 ++ [.str (qEd b).2.1, .bool (qEd b).2.2]) } [AV.agg (editL x ++ [.str r, .bool e])] [] [] := fun x r e h => qfin rfl (by rw [h]; rfl) rfl rfl
  have no : qEd b = zQ → FinQ { res := .agg (editL (qEd b).1 ++ [.str (qEd b).2.1, .bool (qEd b).2.2]) } [AV.agg (editL zQ.1 ++ [.str zQ.2.1, .bool zQ.2.2])] [] [] := fun h => fin _ _ _ h
  have len1 : ∀ {l : List Nd}, ((l.length : Int) != 1) = true → ¬ l.length = 1 := fun {l} h q => by rw [q] at h; cases h
  have len1' : ∀ {l : List Nd}, ((l.length : Int) != 1) = false → l.length = 1 := fun {l} h => by
    have : ((l.length : Int)) = 1 := by simpa using h
    omega
  have hq : qEd b = if tkE b ≠ 0 ∨ tkE (tkR b) ≠ 0 ∨ tkN (tkR b) > 41 then zQ else if (wy (tkN (tkR b)).toNat (tkR (tkR b))).2.2 = true then qBd (tkN b) (wy (tkN (tkR b)).toNat (tkR (tkR b))).1 (wy (tkN (tkR b)).toNat (tkR (tkR b))).2.1 else zQ := rfl
  have h0 : 0 ≤ tkN (tkR b) := by unfold tkN; split <;> omega
  refine ⟨fun h1 => no (hq.trans (if_pos (.inl (by simpa using h1)))), fun h1 => ⟨fun h2 => no (hq.trans (if_pos (.inr (.inl (by simpa using h2))))), fun h2 => ⟨fun h3 => no (hq.trans (if_pos (.inr (.inr (of_decide_eq_true h3))))), fun h3 => Rq.mk ⟨rfl, h0, by have := of_decide_eq_false h3; omega⟩ ?_⟩⟩⟩
  have h1 : tkE b = 0 := by simpa using h1
  have h2 : tkE (tkR b) = 0 := by simpa using h2
  have h3 := of_decide_eq_false h3
  rw [if_neg (by rw [h1, h2]; simp; omega)] at hq
  generalize wy (tkN (tkR b)).toNat (tkR (tkR b)) = q at hq ⊢
  obtain ⟨w, r, ok⟩ := q
  dsimp only at hq ⊢
  refine ⟨fun h4 => ?_, fun h4 => ⟨fun _ => no ?_, fun _ => no ?_⟩⟩
  · have h0 : qEd b = qBd (tkN b) w r := hq.trans (if_pos h4)
    refine ⟨fun h5 => ?_, fun h5 => ?_⟩
    · have h5 : w = [] := List.eq_nil_of_length_eq_zero (by simpa using h5)
      subst h5
      refine ⟨fun k1 => ?_, fun k1 => ⟨fun k2 => ?_, fun k2 => ⟨fun k3 => ?_, fun k3 => ⟨fun k4 => ?_, fun k4 => no (h0.trans (qBd_no ?_ ?_ ?_ ?_))⟩⟩⟩⟩
      · have k1 : tkN b = 1 := by simpa using k1
        refine Rq.mk (ttS_cap r) ⟨fun h1 => no (h0.trans (qBd12_no (.inl k1) (.inl (by simpa using h1)))), fun h1 => ⟨fun h2 => no (h0.trans (qBd12_no (.inl k1) (.inr (.inl (by simpa using h2))))), fun h2 => ⟨fun _ => ⟨fun h3 => no (h0.trans (qBd12_no (.inl k1) (.inr (.inr (len1 h3))))), fun h3 => ⟨fun _ => Rq.mk ⟨by decide, by have := len1' h3; omega⟩ (fin ⟨tkN b, [], zN, rd .node (rdL (ttS r)) 0⟩ (ttR r) false (h0.trans ?_)), fun h4 => absurd k1 (by simpa using h4)⟩⟩⟩⟩⟩
        rw [k1]
        exact qBd1 (by simpa using h1) (by simpa using h2) (len1' h3)
      · have k1 : ¬ tkN b = 1 := by simpa using k1
        have k2 : tkN b = 2 := by simpa using k2
        refine Rq.mk (ttS_cap r) ⟨fun h1 => no (h0.trans (qBd12_no (.inr k2) (.inl (by simpa using h1)))), fun h1 => ⟨fun h2 => no (h0.trans (qBd12_no (.inr k2) (.inr (.inl (by simpa using h2))))), fun h2 => ⟨fun _ => ⟨fun h3 => no (h0.trans (qBd12_no (.inr k2) (.inr (.inr (len1 h3))))), fun h3 => ⟨fun h4 => absurd (show tkN b = 1 by simpa using h4) k1, fun _ => Rq.mk ⟨by decide, by have := len1' h3; omega⟩ (fin ⟨tkN b, [], rd .node (rdL (ttS r)) 0, zN⟩ (ttR r) false (h0.trans ?_))⟩⟩⟩⟩⟩
        rw [k2]
        exact qBd2 (by simpa using h1) (by simpa using h2) (len1' h3)
      · have k3 : tkN b = 3 := by simpa using k3
        have e1 : ∀ n : Nat, (n : Int).tmod 2 = ((n % 2 : Nat) : Int) := fun n => by rw [Int.tmod_eq_emod_of_nonneg (by omega)]; omega
        rw [e1, e1]
        refine ⟨fun h1 => no (h0.trans (qBd3_no k3 (.inl (by simpa using h1)))), fun h1 => ⟨fun h2 => no (h0.trans (qBd3_no k3 (.inr (.inl (by simpa using h2))))), fun h2 => Rq.mk (by decide) ⟨fun h3 => ⟨fun _ => no (h0.trans (qBd3_no k3 (.inr (.inr (.inl (by have := of_decide_eq_true h3; omega))))))⟩, fun h3 => Rq.mk (by decide) ⟨fun _ => ⟨fun _ => ⟨fun h4 => no (h0.trans (qBd3_no k3 (.inr (.inr (.inr (by have := of_decide_eq_true h4; omega)))))), fun h4 => Rq.mk (tl_len _) (Rq.mk (tl_len _) (fin ⟨tkN b, [], { zN with attrs := prs (tlL r) }, { zN with attrs := prs (tlL (tlR r)) }⟩ (tlR (tlR r)) false (h0.trans ?_)))⟩⟩⟩⟩⟩⟩
        rw [k3]
        exact qBd3 (by simpa using h1) (by simpa using h2) (by have := of_decide_eq_false h3; omega) (by have := of_decide_eq_false h4; omega)
      · have k4 : tkN b = 4 := by simpa using k4
        refine ⟨fun h1 => no (h0.trans (qBd4_no k4 (.inl (by simpa using h1)))), fun h1 => ⟨fun h2 => no (h0.trans (qBd4_no k4 (.inr (by simpa using h2)))), fun h2 => fin ⟨tkN b, [], { zN with text := ttS r }, { zN with text := ttS (ttR r) }⟩ (ttR (ttR r)) false (h0.trans ?_)⟩⟩
        rw [k4]
        exact qBd4 (by simpa using h1) (by simpa using h2)
      · simpa using k1
      · simpa using k2
      · simpa using k3
      · simpa using k4
    · clear h5
      refine ⟨fun k1 => ?_, fun k1 => ⟨fun k2 => ?_, fun k2 => ⟨fun k3 => ?_, fun k3 => ⟨fun k4 => ?_, fun k4 => no (h0.trans (qBd_no ?_ ?_ ?_ ?_))⟩⟩⟩⟩
      · have k1 : tkN b = 1 := by simpa using k1
        refine Rq.mk (ttS_cap r) ⟨fun h1 => no (h0.trans (qBd12_no (.inl k1) (.inl (by simpa using h1)))), fun h1 => ⟨fun h2 => no (h0.trans (qBd12_no (.inl k1) (.inr (.inl (by simpa using h2))))), fun h2 => ⟨fun _ => ⟨fun h3 => no (h0.trans (qBd12_no (.inl k1) (.inr (.inr (len1 h3))))), fun h3 => ⟨fun _ => Rq.mk ⟨by decide, by have := len1' h3; omega⟩ (fin ⟨tkN b, w, zN, rd .node (rdL (ttS r)) 0⟩ (ttR r) false (h0.trans ?_)), fun h4 => absurd k1 (by simpa using h4)⟩⟩⟩⟩⟩
        rw [k1]
        exact qBd1 (by simpa using h1) (by simpa using h2) (len1' h3)
      · have k1 : ¬ tkN b = 1 := by simpa using k1
        have k2 : tkN b = 2 := by simpa using k2
        refine Rq.mk (ttS_cap r) ⟨fun h1 => no (h0.trans (qBd12_no (.inr k2) (.inl (by simpa using h1)))), fun h1 => ⟨fun h2 => no (h0.trans (qBd12_no (.inr k2) (.inr (.inl (by simpa using h2))))), fun h2 => ⟨fun _ => ⟨fun h3 => no (h0.trans (qBd12_no (.inr k2) (.inr (.inr (len1 h3))))), fun h3 => ⟨fun h4 => absurd (show tkN b = 1 by simpa using h4) k1, fun _ => Rq.mk ⟨by decide, by have := len1' h3; omega⟩ (fin ⟨tkN b, w, rd .node (rdL (ttS r)) 0, zN⟩ (ttR r) false (h0.trans ?_))⟩⟩⟩⟩⟩
        rw [k2]
        exact qBd2 (by simpa using h1) (by simpa using h2) (len1' h3)
      · have k3 : tkN b = 3 := by simpa using k3
        have e1 : ∀ n : Nat, (n : Int).tmod 2 = ((n % 2 : Nat) : Int) := fun n => by rw [Int.tmod_eq_emod_of_nonneg (by omega)]; omega
        rw [e1, e1]
        refine ⟨fun h1 => no (h0.trans (qBd3_no k3 (.inl (by simpa using h1)))), fun h1 => ⟨fun h2 => no (h0.trans (qBd3_no k3 (.inr (.inl (by simpa using h2))))), fun h2 => Rq.mk (by decide) ⟨fun h3 => ⟨fun _ => no (h0.trans (qBd3_no k3 (.inr (.inr (.inl (by have := of_decide_eq_true h3; omega))))))⟩, fun h3 => Rq.mk (by decide) ⟨fun _ => ⟨fun _ => ⟨fun h4 => no (h0.trans (qBd3_no k3 (.inr (.inr (.inr (by have := of_decide_eq_true h4; omega)))))), fun h4 => Rq.mk (tl_len _) (Rq.mk (tl_len _) (fin ⟨tkN b, w, { zN with attrs := prs (tlL r) }, { zN with attrs := prs (tlL (tlR r)) }⟩ (tlR (tlR r)) false (h0.trans ?_)))⟩⟩⟩⟩⟩⟩
        rw [k3]
        exact qBd3 (by simpa using h1) (by simpa using h2) (by have := of_decide_eq_false h3; omega) (by have := of_decide_eq_false h4; omega)
      · have k4 : tkN b = 4 := by simpa using k4
        refine ⟨fun h1 => no (h0.trans (qBd4_no k4 (.inl (by simpa using h1)))), fun h1 => ⟨fun h2 => no (h0.trans (qBd4_no k4 (.inr (by simpa using h2)))), fun h2 => fin ⟨tkN b, w, { zN with text := ttS r }, { zN with text := ttS (ttR r) }⟩ (ttR (ttR r)) false (h0.trans ?_)⟩⟩
        rw [k4]
        exact qBd4 (by simpa using h1) (by simpa using h2)
      · simpa using k1
      · simpa using k2
      · simpa using k3
      · simpa using k4
  · exact hq.trans (if_neg (by rw [h4]; decide))
  · exact hq.trans (if_neg (by rw [h4]; decide))
theorem qRd_sum : SumOK cxQRd (LL Tryz.f16 [lsQRd]) Tryz.f16.ntmps (loopAt Tryz.f16 0).1 (loopAt Tryz.f16 0).2 lsQRd := by
  intro vs bs K hs
  unfold lsQRd at hs
  simp only at hs
  split at hs
  case h_2 => exact hs.elim
  rename_i r i n s1 s2 s3 s4 o
  obtain ⟨⟨rfl, ho, hn0, hn⟩, h⟩ := hs
  obtain rfl : o = [] := List.eq_nil_of_length_eq_zero ho
  obtain ⟨n, rfl⟩ := Int.eq_ofNat_of_zero_le hn0
  rw [Int.toNat_natCast] at h
  have hmx : maxSl = 140737488355328 := rfl
  refine sum_rec (σ := Nat × ByteArray × List Ed) (fun q => [.ptr 0 0, .str q.2.1, .own 1 0, .int .i64 (q.1 : Nat)]) (fun q => [.box [.int .i64 n, .str s1, .row .str s2, .str s3, .int .i64 s4], .rowb 0 .redit q.2.2]) (fun q => q.1 ≤ n ∧ q.2.2.length ≤ q.1 ∧ q.2.2 ++ (qEds (n - q.1) q.2.1).1 = (qEds n r).1 ∧ (qEds (n - q.1) q.2.1).2 = (qEds n r).2) (fun q => n - q.1) ?_ (0, r, []) ⟨Nat.zero_le _, Nat.le_refl _, rfl, rfl⟩
  rintro ⟨i, b, acc⟩ ⟨h1, h2, h3, h4⟩ R hR
  dsimp only at h1 h2 h3 h4 hR ⊢
  refine Eq.mpr (vcQRdB acc b s1 s3 s2 i n s4 _) ⟨fun q => ?_, fun q => ?_⟩
  · have q := of_decide_eq_true q
    obtain ⟨c, hc⟩ : ∃ c, n - i = c + 1 := ⟨n - i - 1, by omega⟩
    rw [hc, qEds] at h3 h4
    refine ⟨fun q2 => ?_, fun q2 => ?_⟩
    · rw [if_pos q2] at h3 h4
      have h3 : acc ++ [] = (qEds n r).1 := h3
      have h4 : (b, false) = (qEds n r).2 := h4
      rw [List.append_nil] at h3
      have := h.no (by rw [← h4])
      rw [← h3, ← h4] at this
      exact this
    · rw [if_neg (by rw [q2]; decide)] at h3 h4
      rw [ed_eta]
      refine Rq.mk (by simp only [List.length_cons, List.length_nil]; omega) ?_
      have ew : IntKind.i64.wrap ((i : Int) + 1) = ((i + 1 : Nat) : Int) := by rw [wrap_id'] <;> omega
      rw [ew]
      refine hR (i + 1, (qEd b).2.1, acc ++ [(qEd b).1]) ⟨by dsimp only; omega, ?_, ?_, ?_⟩ (by dsimp only; omega)
      · dsimp only; rw [List.length_append]; simp only [List.length_cons, List.length_nil]; omega
      · dsimp only; rw [show n - (i + 1) = c by omega, List.append_assoc]; exact h3
      · dsimp only; rw [show n - (i + 1) = c by omega]; exact h4
  · have q := of_decide_eq_false q
    rw [show n - i = 0 by omega] at h3 h4
    have h3 : acc ++ [] = (qEds n r).1 := h3
    have h4 : (b, true) = (qEds n r).2 := h4
    rw [List.append_nil] at h3
    have := h.yes (by rw [← h4])
    rw [← h3, ← h4] at this
    exact this
theorem qRd_holds : Holds 16 conQRd := conP_holds fun b => by
  rcases (show ∃ w : ByteArray, w = b from ⟨_, rfl⟩) with ⟨b, rfl⟩
  refine fun_meets1 (AllH.tok (.cons tkN1_holds (by kernel_rfl) (.cons take_holds (by kernel_rfl) (.cons c23_holds (by kernel_rfl) .nil)))) [.row .redit, .as] lsQRd (by kernel_rfl) (by kernel_rfl) qRd_sum fun _ => Eq.mpr (vcQRdF b _) ?_
  have h0 : 0 ≤ tkN b := by unfold tkN; split <;> omega
  have fin : ∀ l e, dlL b = l ∧ dlE b = e → FinQ { res := .tup [.row .redit (dlL b), .int .i64 (dlE b)] } [AV.row Ty.redit l, AV.int IntKind.i64 e] [] [] := fun l e h => qfin rfl (by rw [h.1, h.2]; rfl) rfl rfl
  refine ⟨fun h => fin _ _ (q_no fun q => (show ¬ tkE b = 0 by simpa using h) q.1), fun h => ⟨fun h1 => fin _ _ (q_no fun q => q.2.1 (of_decide_eq_true h1)), fun h1 => Rq.mk ⟨rfl, rfl, h0, by have := of_decide_eq_false h1; omega⟩ ⟨fun h2 => ⟨fun h3 => fin _ _ (q_no fun q => ?_), fun h3 => Rq.mk (p_of_qEds h2).1 ⟨fun h4 => fin _ _ (q_no fun q => ?_), fun h4 => fin _ _ (q_yes (by simpa using h) (of_decide_eq_false h1) h2 ?_ (by simpa using h4))⟩⟩, fun h2 => fin _ _ (q_no fun q => ?_)⟩⟩⟩
  · rw [show (ByteArray.mk (Array.mk [])) = (⟨#[]⟩ : ByteArray) from rfl, q.2.2.2.1] at h3; cases h3
  · exact (show ¬ dchkS _ = 0 by simpa using h4) q.2.2.2.2
  · rw [← Bool.not_eq_false']; exact h3
  · rw [q.2.2.1] at h2; cases h2
theorem smQ_sum : SumOK cxSmQ (LL Tryz.f17 [lsSmQ]) Tryz.f17.ntmps (loopAt Tryz.f17 0).1 (loopAt Tryz.f17 0).2 lsSmQ := by
  intro vs bs K hs
  unfold lsSmQ at hs
  simp only at hs
  split at hs
  case h_2 => exact hs.elim
  rename_i a b c m i
  obtain ⟨⟨rfl, rfl, rfl, hl⟩, h⟩ := hs
  rcases (show ∃ w : List Ed, w = c from ⟨_, rfl⟩) with ⟨a, rfl⟩
  rcases (show ∃ w : List Ed, w = b from ⟨_, rfl⟩) with ⟨b, rfl⟩
  refine sum_rec (σ := Nat) (fun i => [.row .redit a, .row .redit b, .row .redit a, .int .i64 a.length, .int .i64 (i : Nat)]) (fun _ => []) (fun i => i ≤ a.length ∧ beg eqEd a b = beg eqEd (a.drop i) (b.drop i)) (fun i => a.length - i) ?_ 0 ⟨Nat.zero_le _, by rw [List.drop_zero, List.drop_zero]⟩
  rintro i ⟨hi, e⟩ R hR
  refine Eq.mpr (vcSmQB a b a a.length i _) ⟨fun h1 => ?_, fun h1 => ?_⟩
  · have h1 : (i : Int) < (a.length : Int) := of_decide_eq_true h1
    have hia : i < a.length := by omega
    rw [List.drop_eq_getElem_cons hia] at e
    rw [rd_red hia, wrap_succ hia hl]
    refine Rq.mk ⟨by omega, h1⟩ ⟨fun h2 => ⟨fun _ => ?_⟩, fun h2 => ?_⟩
    · have h2 : (i : Int) ≥ (b.length : Int) := of_decide_eq_true h2
      rw [List.drop_of_length_le (l := b) (by omega)] at e
      exact h.no e
    · have h2 : ¬ (i : Int) ≥ (b.length : Int) := of_decide_eq_false h2
      have hib : i < b.length := by omega
      rw [List.drop_eq_getElem_cons hib] at e
      have e : beg eqEd a b = (eqEd a[i] b[i] && beg eqEd (a.drop (i + 1)) (b.drop (i + 1))) := e
      rw [rd_red hib]
      have q : (0 : Int) ≤ i ∧ (i : Int) < (b.length : Int) := ⟨by omega, by omega⟩
      have no : eqEd a[i] b[i] = false → rk _ R Ex.ret [.row .redit a, .row .redit b, .bool false] [] := fun hq => h.no (by rw [e, hq]; rfl)
      have hE : eqEd a[i] b[i] = (a[i].what == b[i].what && eql eqI a[i].way b[i].way && eqNd a[i].old b[i].old && eqNd a[i].new b[i].new) := rfl
      rw [nd_eta, nd_eta, nd_eta, nd_eta]
      refine Rq.mk q ⟨fun h3 => ⟨fun _ => no ?_⟩, fun h3 => Rq.mk q ⟨fun h4 => ⟨fun _ => no ?_⟩, fun h4 => Rq.mk q ⟨fun h5 => ⟨fun _ => no ?_⟩, fun h5 => Rq.mk q ⟨fun _ => ⟨fun h6 => no ?_, fun h6 => ?_⟩⟩⟩⟩⟩
      · have h3 : (a[i].what == b[i].what) = false := by simpa using h3
        rw [hE, h3]; rfl
      · have h4 : eql eqI a[i].way b[i].way = false := by simpa using h4
        rw [hE, h4, Bool.and_false]; rfl
      · have h5 : eqNd a[i].old b[i].old = false := by simpa using h5
        rw [hE, h5, Bool.and_false]; rfl
      · have h6 : eqNd a[i].new b[i].new = false := by simpa using h6
        rw [hE, h6, Bool.and_false]
      · have h3 : (a[i].what == b[i].what) = true := by simpa using h3
        have h4 : eql eqI a[i].way b[i].way = true := by simpa using h4
        have h5 : eqNd a[i].old b[i].old = true := by simpa using h5
        have h6 : eqNd a[i].new b[i].new = true := by simpa using h6
        rw [hE, h3, h4, h5, h6] at e
        exact hR (i + 1) ⟨hia, by rw [e]; rfl⟩ (by omega)
  · have h1 : ¬ (i : Int) < (a.length : Int) := of_decide_eq_false h1
    rw [List.drop_of_length_le (l := a) (by omega)] at e
    exact h.yes (by rw [e]; rfl)
theorem smQ_holds : Holds 17 conSmQ := conP_holds fun a b => by
  rcases (show ∃ w : List Ed, w = a from ⟨_, rfl⟩) with ⟨a, rfl⟩
  rcases (show ∃ w : List Ed, w = b from ⟨_, rfl⟩) with ⟨b, rfl⟩
  refine fun_meets1 (AllH.tok (.cons its_holds (by kernel_rfl) (.cons node_holds (by kernel_rfl) .nil))) [] lsSmQ (by kernel_rfl) (by kernel_rfl) smQ_sum fun hpre => Eq.mpr (vcSmQF a b _) ?_
  have key : ((a.length : Int) == (b.length : Int)) = (a.length == b.length) := by
    rw [Bool.eq_iff_iff]; simp only [beq_iff_eq]; exact Int.ofNat_inj
  refine ⟨fun ha => Rq.mk ⟨rfl, rfl, rfl, ha⟩ ⟨fun e => ⟨fun _ => ⟨fun _ => qfin rfl ?_ rfl rfl⟩⟩, fun e => qfin rfl ?_ rfl rfl⟩⟩
  · show [AV.bool _] = [AV.bool _]
    rw [← beg_eql, e, Bool.true_and, key]
  · show [AV.bool _] = [AV.bool _]
    rw [← beg_eql, e, Bool.false_and]
theorem deltaReads_ax : Holds 4 conDeltaReads := conP_holds fun b => by
  rcases (show ∃ w : ByteArray, w = b from ⟨_, rfl⟩) with ⟨b, rfl⟩
  refine fun_meets0 (AllH.tok (.cons emp_holds (by kernel_rfl) (.cons dRead_holds (by kernel_rfl) (.cons qRd_holds (by kernel_rfl) (.cons ref23_holds (by kernel_rfl) (.cons smQ_holds (by kernel_rfl) .nil)))))) [] (by kernel_rfl) (by kernel_rfl) fun _ => Eq.mpr (vcDReadsF b _) ?_
  have hl := dl_len b
  have hmx : maxSl = 140737488355328 := rfl
  rw [eql_self eqEdD_self, beq_self_eq_true]
  exact ⟨fun _ => ⟨fun _ => qfin rfl rfl rfl rfl, fun _ => Rq.mk (by omega) ⟨fun _ => ⟨fun _ => qfin rfl rfl rfl rfl, fun h => (nomatch h)⟩, fun h => (nomatch h)⟩⟩⟩
end Go.Proofs.YtnhipiedjekkpaaGreatDoor.AX
end
section
namespace Go.Proofs.YtnhipiedjekkpaaGreatDoor.AXP
open Go Go.Proofs.YtnhipiedjekkpaaGreatDoor.AX
end Go.Proofs.YtnhipiedjekkpaaGreatDoor.AXP
end
section
namespace Go.Proofs.YtnhipiedjekkpaaGreatDoor.AX
open Go Go.RowKit AXP
section
variable {H : Type} {enc : TypeId × Value → H} {w : World} {base : Nat} {spare : Nat → Bool} {held : Bool} {O : Nat → Prop} {I : Im}
def Small (t : TypeId) (d : DataW H) : Prop := ∀ n ∈ d.weights Tryz.prog t, n ≤ reachBytes
set_option maxRecDepth 100000
end
end Go.Proofs.YtnhipiedjekkpaaGreatDoor.AX
end
section
namespace Go.Proofs.YtnhipiedjekkpaaGreatDoor.AX
open Go Go.ChangeShapes Go.WideShapes Go.ChangeAt Go.RowKit
def encTw (a : Tw) : List Value := [.int .i64 a.a, .int .i64 a.b]
theorem take_at {α : Type} {cs e : List α} {a n i : Nat} {u : α} (h : (cs.drop a).take n = e) (hu : e[i]? = some u) : cs[a + i]? = some u := by
  subst h
  rw [List.getElem?_take] at hu
  split at hu
  · rwa [List.getElem?_drop] at hu
  · cases hu
theorem cells_of_array {α H : Type} {enc0 : TypeId × Value → H} {P : Program} {w : World} {base : Nat} {spare : Nat → Bool} {held : Bool} {fuel : Nat} {t e : TypeId} {n sz : Nat} {cs : List Value} {p : List MemPlace} (ht : P.underlying t = some (.array n e)) (hsz : P.cellsOf e = sz)
    (encd : α → DataW H) (enc : α → List Value) (l : List α) (hl : l.length = n)
    (hone : ∀ m a c q, DataW.trod enc0 P w base spare held m e c = some (encd a, q) → c = enc a)
    (h : DataW.trod enc0 P w base spare held fuel t cs = some (.agg (l.map encd), p)) : ∀ j a, l[j]? = some a → ∀ i u, (enc a)[i]? = some u → cs[j * sz + i]? = some u := by
  obtain ⟨xs, m, _, hx, _, hxl, hel⟩ := DataW.trod_array ht h
  simp only [Prod.mk.injEq, DataW.agg.injEq] at hx
  intro j a ha i u hu
  have hj : j < n := by rw [← hl]; exact (List.getElem?_eq_some_iff.1 ha).1
  have h1 := hel j hj
  rw [hsz] at h1
  have h2 : (xs.map (·.1))[j]? = (l.map encd)[j]? := by rw [hx.1]
  rw [List.getElem?_map, List.getElem?_map, ha] at h2
  obtain ⟨⟨d, q⟩, hq, hd⟩ := Option.map_eq_some_iff.1 h2
  simp only at hd
  subst hd
  rw [hq] at h1
  exact take_at (hone _ _ _ _ h1) hu
theorem rec2 {H : Type} {enc0 : TypeId × Value → H} {w : World} {base : Nat} {spare : Nat → Bool} {held : Bool} {T : TypeId} {f0 f1 : Field} (hT : Tryz.prog.underlying T = some (.struct #[f0, f1])) (h0 : f0.type = 3 ∧ f0.offset = 0) (h1 : f1.type = 3 ∧ f1.offset = 1) (hc : Tryz.prog.cellsOf T = 2)
    (m : Nat) (a : Tw) (c : List Value) (q : List MemPlace) (h : DataW.trod enc0 Tryz.prog w base spare held m T c = some (.agg [.lit (.int .i64 a.1), .lit (.int .i64 a.2)], q)) : c = encTw a := by
  obtain ⟨y0, y1, n, hx, hl, g0, g1⟩ := trod_struct2 hT h
  have c3 : Tryz.prog.cellsOf 3 = 1 := by kernel_rfl
  rw [h0.1, h0.2, c3] at g0
  rw [h1.1, h1.2, c3] at g1
  rw [hc] at hl
  obtain ⟨x0, e0, rfl, _⟩ := DataW.trod_int Tryz.underlying3 g0
  obtain ⟨x1, e1, rfl, _⟩ := DataW.trod_int Tryz.underlying3 g1
  simp only [Prod.mk.injEq, DataW.agg.injEq, List.cons.injEq, DataW.lit.injEq, Lit.int.injEq, true_and, and_true] at hx
  match c, hl with
  | [c0, c1], _ =>
    simp at e0 e1
    subst e0 e1
    obtain ⟨⟨r0, r1⟩, _⟩ := hx
    simp [encTw, r0, r1]
theorem laid_mem {P : Program} {w : World} : ∀ {l : List (String × DataW Unit)} {ps : List MemPlace}, DataW.LaidVars P w l ps → ∀ n d, (n, d) ∈ l →
    ∃ g t cs fuel p, P.globalNamed n = some g ∧ (P.globals[g]?).map (·.type) = some t ∧ w.var? P n = some cs ∧ DataW.trod (fun _ => ()) P w 0 (fun _ => true) false fuel t cs.toList = some (d, p)
  | [], _, _, _, _, h => by simp at h
  | (n0, d0) :: r, ps, ⟨g, t, cs, fuel, p, q, h1, h2, h3, h4, hr, _⟩, n, d, h => by
    rcases List.mem_cons.1 h with h | h
    · obtain ⟨rfl, rfl⟩ := Prod.mk.inj h
      exact ⟨g, t, cs, fuel, p, h1, h2, h3, h4⟩
    · exact laid_mem hr n d h
theorem var_cells {W : World} {n : String} {g : Nat} {t : TypeId} {d : DataW Unit} {l : List (String × DataW Unit)} (hl : laidMet Tryz.prog l W) (hm : (n, d) ∈ l) (hg : Tryz.prog.globalNamed n = some g) (ht : (Tryz.prog.globals[g]?).map (·.type) = some t) :
    ∃ (cs : Array Value) (fuel : Nat) (p : List MemPlace), DataW.trod (fun _ => ()) Tryz.prog W 0 (fun _ => true) false fuel t cs.toList = some (d, p) ∧ ∀ i : Nat, W.cell? ⟨g, i, none⟩ = cs.toList[i]? := by
  obtain ⟨ps, hv, _, _⟩ := hl
  obtain ⟨g', t', cs, fuel, p, h1, h2, h3, h4⟩ := laid_mem hv n d hm
  obtain rfl := Option.some.inj (hg.symm.trans h1)
  obtain rfl := Option.some.inj (ht.symm.trans h2)
  exact ⟨cs, fuel, p, h4, fun i => by rw [World.var?_cell hg h3 i]; simp⟩
theorem maxlen_of {W : World} (h : W.ShapedOpen Tryz.prog) : ∃ m, W.cell? ⟨1, 0, none⟩ = some (.int .i64 m) :=
  cell_of_shapedOpen_int (t := 3) (zero := #[.int .i64 0]) h (of_decide_eq_true (by kernel_rfl)) (by kernel_rfl) rfl (by kernel_rfl) (by kernel_rfl) Tryz.underlying3
def uRows : List Tw := [⟨0, 0⟩, ⟨0, 0⟩, ⟨192, 128⟩, ⟨224, 2048⟩, ⟨240, 65536⟩]
theorem glob_of {W : World} {l : List (String × DataW Unit)} {O : Nat → Prop} (hO : ∀ b, ¬ O b) (hl : laidMet Tryz.prog l W) (m0 : ("recto/utf.rows", Rows.laid_recto_utf_rows) ∈ l) (hs : W.ShapedOpen Tryz.prog) : GOK cx0.tid W O := by
  have c58 : Tryz.prog.cellsOf 173 = 2 := by kernel_rfl
  obtain ⟨cs, fuel, p, h, hc⟩ := var_cells hl m0 (show Tryz.prog.globalNamed "recto/utf.rows" = some 0 by kernel_rfl) (show (Tryz.prog.globals[0]?).map (·.type) = some 174 by kernel_rfl)
  have r0 : ∀ j a, uRows[j]? = some a → ∀ i u, (encTw a)[i]? = some u → W.cell? ⟨0, j * 2 + i, none⟩ = some u := fun j a ha i u hu => (hc _).trans (cells_of_array Tryz.underlying174 c58 (fun a : Tw => .agg [.lit (.int .i64 a.1), .lit (.int .i64 a.2)]) encTw uRows rfl (fun m a c q => rec2 Tryz.underlying173 ⟨rfl, rfl⟩ ⟨rfl, rfl⟩ c58 m a c q) h j a ha i u hu)
  refine ⟨fun q hq => ?_, fun g hg => ?_⟩
  · have hq : q ∈ [Glo.mk 0 .two uRows] := hq
    rw [List.mem_singleton] at hq
    subst hq
    refine ⟨by kernel_rfl, hO _, World.block_lt_of_cell? W _ (r0 0 _ rfl 0 _ rfl), fun j a ha => ?_⟩
    have hj : j < (cellsOf .two uRows).length := (List.getElem?_eq_some_iff.1 ha).1
    rw [cellsOf_length] at hj
    have hd : j / width .two < uRows.length := Nat.div_lt_of_lt_mul (by rw [Nat.mul_comm]; exact hj)
    rw [cellsOf_get hd] at ha
    have e : ∀ (x : Tw) (i : Nat) (a : AV), (leaves .two x)[i]? = some a → (encTw x)[i]? = some (flatV a) := fun x i a h => by
      match i, h with
      | 0, h => cases h; rfl
      | 1, h => cases h; rfl
    have := r0 (j / 2) uRows[j / width .two] (List.getElem?_eq_getElem hd) (j % 2) (flatV a) (e _ _ _ ha)
    rw [show j / 2 * 2 + j % 2 = j by omega] at this
    exact this
  · have hg : g ∈ [1] := hg
    rw [List.mem_singleton] at hg
    subst hg
    exact ⟨hO _, maxlen_of hs⟩
end Go.Proofs.YtnhipiedjekkpaaGreatDoor.AX
end
