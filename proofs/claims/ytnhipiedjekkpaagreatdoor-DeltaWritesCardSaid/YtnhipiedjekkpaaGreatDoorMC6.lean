/- What the code of this statement does, over values that stand for data: an executor of the model's code, that it is sound, and contracts of functions: part 6. No condition is added to the statement. -/
import Derived.Test.YtnhipiedjekkpaaGreatDoorMC5
import Derived.ChangeArms
import Derived.SizedLaws
import Derived.Test.YtnhipiedjekkpaaGreatDoorRows
import Derived.ProofKit
import Derived.LaidMore
import Derived.OpenShut
import Derived.Stop.Joined
import Derived.Deep.Strs
import Derived.Shelf.Vars
set_option linter.unusedVariables false
set_option linter.unusedSimpArgs false
section
namespace Go.Proofs.YtnhipiedjekkpaaGreatDoor.AXP
open Go Go.Proofs.YtnhipiedjekkpaaGreatDoor.AX
theorem nm_iff {i : Nat} {b : Int} : (smI b || (i != 0 && mor b)) = true ↔ (97 ≤ b ∧ b ≤ 122) ∨ (i ≠ 0 ∧ ((48 ≤ b ∧ b ≤ 58) ∨ b = 45)) := by
  unfold smI mor
  simp only [Bool.or_eq_true, Bool.and_eq_true, decide_eq_true_eq, beq_iff_eq, bne_iff_ne, ne_eq]
theorem kb_drop {s : ByteArray} {i : Nat} (h : i < s.size) : (kb s).drop i = s.get! i :: (kb s).drop (i + 1) := by
  have hl : i < (kb s).length := by rw [kb_len]; exact h
  have e := kb_get h
  rw [List.getElem?_eq_getElem hl] at e
  injection e with e
  rw [List.drop_eq_getElem_cons hl, e]
theorem nmR_pos : ∀ (l : List UInt8) (i : Nat), 0 < i → nmR i l = l.all fun b => smallB b || (decide (48 ≤ b.toNat) && decide (b.toNat ≤ 57)) || b == 45 || b == 58
  | [], _, _ => rfl
  | b :: l, i, h => by
    rw [nmR, nmR_pos l (i + 1) (by omega), List.all_cons]
    congr 1
    have hi : (i != 0) = true := by simp; omega
    rw [hi, Bool.true_and]
    unfold smI mor smallB
    have h45 : ((b.toNat : Int) == 45) = (b == 45) := by
      rw [Bool.eq_iff_iff, beq_iff_eq, beq_iff_eq]
      exact ⟨fun e => UInt8.toNat_inj.1 (by have : b.toNat = 45 := by omega
                                            rw [this]; rfl), fun e => by rw [e]; rfl⟩
    have h58 : (b == 58) = decide (b.toNat = 58) := by
      rw [Bool.eq_iff_iff, beq_iff_eq, decide_eq_true_eq]
      exact ⟨fun e => by rw [e]; rfl, fun e => UInt8.toNat_inj.1 (by rw [e]; rfl)⟩
    rw [h45, h58]
    have e1 : decide (97 ≤ (b.toNat : Int)) = decide (97 ≤ b.toNat) := by congr 1; apply propext; omega
    have e2 : decide ((b.toNat : Int) ≤ 122) = decide (b.toNat ≤ 122) := by congr 1; apply propext; omega
    have e3 : (decide (48 ≤ (b.toNat : Int)) && decide ((b.toNat : Int) ≤ 58)) = ((decide (48 ≤ b.toNat) && decide (b.toNat ≤ 57)) || decide (b.toNat = 58)) := by
      rw [Bool.eq_iff_iff]
      simp only [Bool.and_eq_true, Bool.or_eq_true, decide_eq_true_eq]
      omega
    rw [e1, e2, e3]
    generalize (decide (97 ≤ b.toNat) && decide (b.toNat ≤ 122)) = p
    generalize (decide (48 ≤ b.toNat) && decide (b.toNat ≤ 57)) = q
    generalize decide (b.toNat = 58) = r
    generalize (b == 45) = t
    cases p <;> cases q <;> cases r <;> cases t <;> rfl
theorem nameB_nm (s : ByteArray) : nameB s = (nmR 0 (kb s) && decide (0 < s.size) && decide (s.size < 25)) := by
  unfold nameB
  rw [show decide (s.size ≤ 24) = decide (s.size < 25) by congr 1; apply propext; omega]
  cases hk : kb s with
  | nil =>
    have h0 : s.size = 0 := by rw [← kb_size, hk]; rfl
    rw [h0]; rfl
  | cons b l =>
    rw [nmR, nmR_pos l 1 (by decide), List.all_cons]
    have e1 : smI (b.toNat : Int) = smallB b := by
      unfold smI smallB
      rw [show decide (97 ≤ (b.toNat : Int)) = decide (97 ≤ b.toNat) by congr 1; apply propext; omega, show decide ((b.toNat : Int) ≤ 122) = decide (b.toNat ≤ 122) by congr 1; apply propext; omega]
    rw [e1]
    have e0 : (b :: l).getD 0 0 = b := rfl
    rw [e0]
    generalize (l.all fun b => smallB b || (decide (48 ≤ b.toNat) && decide (b.toNat ≤ 57)) || b == 45 || b == 58) = w
    generalize decide (0 < s.size) = p
    generalize decide (s.size < 25) = q
    cases smallB b <;> cases w <;> cases p <;> cases q <;> simp
theorem uFrom_end {s : ByteArray} {i : Nat} (h : s.size ≤ i) : uFrom s i = ([], true) := by
  unfold uFrom
  rw [Int.toNat_natCast, show s.size - i = 0 by omega]; rfl
theorem gA_n {s : ByteArray} {i : Nat} (h : i < s.size) : 1 ≤ (gA s i).2.1 ∧ i + (gA s i).2.1 ≤ s.size := by
  have hl : ((bl s).drop i).length = s.size - i := by rw [List.length_drop, bl_length]
  have := uDec_n (l := (bl s).drop i) (fun e => by rw [e] at hl; simp at hl; omega)
  rw [hl] at this
  unfold gA
  rw [Int.toNat_natCast]
  omega
theorem uFrom_step {s : ByteArray} {i : Nat} (h : i < s.size) : uFrom s i = ((gA s i).1 :: (uFrom s (i + (gA s i).2.1)).1, (gA s i).2.2 && (uFrom s (i + (gA s i).2.1)).2) := by
  have hn := gA_n h
  have hl : ((bl s).drop i).length = s.size - i := by rw [List.length_drop, bl_length]
  obtain ⟨f, hf⟩ : ∃ f, s.size - i = f + 1 := ⟨s.size - i - 1, by omega⟩
  have e0 : uFrom s i = uAll (f + 1) ((bl s).drop i) := by unfold uFrom; rw [Int.toNat_natCast, hf]
  have e1 : uFrom s (i + (gA s i).2.1) = uAll f (((bl s).drop i).drop (gA s i).2.1.toNat) := by
    unfold uFrom
    rw [show ((i : Int) + (gA s i).2.1).toNat = i + (gA s i).2.1.toNat by omega, List.drop_drop]
    exact uAll_fuel _ _ _ (by rw [List.length_drop, bl_length]; exact Nat.le_refl _) (by rw [List.length_drop, bl_length]; omega)
  rw [e0, e1, uAll, if_neg (fun e => by rw [e] at hl; simp at hl; omega)]
  unfold gA
  rw [Int.toNat_natCast]
end Go.Proofs.YtnhipiedjekkpaaGreatDoor.AXP
namespace Go.Proofs.YtnhipiedjekkpaaGreatDoor.AX
open Go AXP
set_option maxRecDepth 100000
theorem is2_holds : Holds 155 conIs2 := conP_holds fun c => by
  rcases (show ∃ w : Int, w = c from ⟨_, rfl⟩) with ⟨c, rfl⟩
  refine fun_meets0 tok0 [] (by kernel_rfl) (by kernel_rfl) fun _ => Eq.mpr (vcIs2F c _) ?_
  have e : ∀ b, isC c = b → [AV.bool b] = compsOf (.bool (isC c)) := fun b h => by rw [h]; rfl
  have hd : isC c = (decide (c ≥ 0) && decide (c ≤ 1114111) && !(decide (c ≥ 55296) && decide (c ≤ 57343))) := rfl
  refine ⟨fun h1 => ⟨fun h2 => ⟨fun h3 => qfin rfl (e _ ?_) rfl rfl, fun h3 => qfin rfl (e _ ?_) rfl rfl⟩, fun h2 => qfin rfl (e _ ?_) rfl rfl⟩, fun h1 => qfin rfl (e _ ?_) rfl rfl⟩
  · rw [hd, h1, h2, h3]; rfl
  · rw [hd, h1, h2, h3]; rfl
  · rw [hd, h1, h2]; rfl
  · rw [hd, h1]; rfl
theorem by2_holds : Holds 156 conBy2 := conP_holds fun c => by
  rcases (show ∃ w : Int, w = c from ⟨_, rfl⟩) with ⟨c, rfl⟩
  refine fun_meets0 (AllH.tok (.cons is2_holds (by kernel_rfl) .nil)) [] (by kernel_rfl) (by kernel_rfl) fun hpre => Eq.mpr (vcBy2F c _) ?_
  have hc : isC c = true := hpre _ rfl
  obtain ⟨c0, c1, _⟩ := isC_iff.1 hc
  have t64 : c.tdiv 64 = c / 64 := Int.tdiv_eq_ediv_of_nonneg c0
  have t4 : c.tdiv 4096 = c / 4096 := Int.tdiv_eq_ediv_of_nonneg c0
  have t26 : c.tdiv 262144 = c / 262144 := Int.tdiv_eq_ediv_of_nonneg c0
  have m64 : c.tmod 64 = c % 64 := Int.tmod_eq_emod_of_nonneg c0
  have w : ∀ x : Int, 0 ≤ x → x ≤ 2000000 → IntKind.i64.wrap x = x := fun x h0 h1 => wrap_id' (by omega) (by omega)
  have u : ∀ x : Int, 0 ≤ x → x < 256 → IntKind.u8.wrap x = x := fun x h0 h1 => by rw [IntKind.wrap_u8]; omega
  have n64 : (c / 64).tmod 64 = c / 64 % 64 := Int.tmod_eq_emod_of_nonneg (by omega)
  have n4 : (c / 4096).tmod 64 = c / 4096 % 64 := Int.tmod_eq_emod_of_nonneg (by omega)
  rw [t64, t4, t26, m64, w (c / 64) (by omega) (by omega), w (c / 4096) (by omega) (by omega), w (c / 262144) (by omega) (by omega), n64, n4]
  have r1 := Int.emod_nonneg c (show (64 : Int) ≠ 0 by decide)
  have r2 := Int.emod_lt_of_pos c (show (0 : Int) < 64 by decide)
  have r3 := Int.emod_nonneg (c / 64) (show (64 : Int) ≠ 0 by decide)
  have r4 := Int.emod_lt_of_pos (c / 64) (show (0 : Int) < 64 by decide)
  have r5 := Int.emod_nonneg (c / 4096) (show (64 : Int) ≠ 0 by decide)
  have r6 := Int.emod_lt_of_pos (c / 4096) (show (0 : Int) < 64 by decide)
  refine ⟨fun h => (by rw [hc] at h; cases h), fun _ => ⟨fun h1 => Rq.mk (show 1 ≤ maxSl by decide) (qfin rfl ?_ rfl rfl), fun h1 => ⟨fun h2 => Rq.mk (by decide) (Rq.mk (by decide) (Rq.mk (show 2 ≤ maxSl by decide) (qfin rfl ?_ rfl rfl))), fun h2 => ⟨fun h3 => Rq.mk (by decide) (Rq.mk (by decide) (Rq.mk (by decide) (Rq.mk (by decide) (Rq.mk (show 3 ≤ maxSl by decide) (qfin rfl ?_ rfl rfl))))), fun h3 => Rq.mk (by decide) (Rq.mk (by decide) (Rq.mk (by decide) (Rq.mk (by decide) (Rq.mk (by decide) (Rq.mk (by decide) (Rq.mk (show 4 ≤ maxSl by decide) (qfin rfl ?_ rfl rfl)))))))⟩⟩⟩⟩
  all_goals show _ = [AV.str (encS c)]
  all_goals unfold encS encB
  · have h1 := of_decide_eq_true h1
    rw [if_pos h1, u c (by omega) (by omega)]; rfl
  · have h1 := of_decide_eq_false h1
    have h2 := of_decide_eq_true h2
    rw [if_neg h1, if_pos h2, w (192 + c / 64) (by omega) (by omega), w (128 + c % 64) (by omega) (by omega), u (192 + c / 64) (by omega) (by omega), u (128 + c % 64) (by omega) (by omega)]; rfl
  · have h1 := of_decide_eq_false h1
    have h2 := of_decide_eq_false h2
    have h3 := of_decide_eq_true h3
    rw [if_neg h1, if_neg h2, if_pos h3, w (224 + c / 4096) (by omega) (by omega), w (128 + c % 64) (by omega) (by omega), w (128 + c / 64 % 64) (by omega) (by omega), u (224 + c / 4096) (by omega) (by omega), u (128 + c % 64) (by omega) (by omega), u (128 + c / 64 % 64) (by omega) (by omega)]; rfl
  · have h1 := of_decide_eq_false h1
    have h2 := of_decide_eq_false h2
    have h3 := of_decide_eq_false h3
    rw [if_neg h1, if_neg h2, if_neg h3, w (240 + c / 262144) (by omega) (by omega), w (128 + c % 64) (by omega) (by omega), w (128 + c / 64 % 64) (by omega) (by omega), w (128 + c / 4096 % 64) (by omega) (by omega), u (240 + c / 262144) (by omega) (by omega), u (128 + c % 64) (by omega) (by omega), u (128 + c / 64 % 64) (by omega) (by omega), u (128 + c / 4096 % 64) (by omega) (by omega)]; rfl
theorem low_holds : Holds 154 conLow := conP_holds fun s i => by
  rcases (show ∃ w : ByteArray, w = s from ⟨_, rfl⟩) with ⟨s, rfl⟩
  rcases (show ∃ w : Int, w = i from ⟨_, rfl⟩) with ⟨i, rfl⟩
  refine fun_meets0 tok0 [] (by kernel_rfl) (by kernel_rfl) fun hpre => Eq.mpr (vcLowF s i _) ?_
  have h0 : 0 ≤ i := hpre _ rfl
  obtain ⟨i, rfl⟩ := Int.eq_ofNat_of_zero_le h0
  have no : ct ((bl s).getD i (-1)) = false → [AV.int .i64 (-1)] = compsOf (.int .i64 (lowB s i)) := fun h => by
    show _ = [AV.int .i64 (lowB s i)]
    unfold lowB; rw [Int.toNat_natCast, if_neg (by rw [h]; decide)]
  refine ⟨fun h => ⟨fun _ => qfin rfl (no ?_) rfl rfl⟩, fun h => ?_⟩
  · have := of_decide_eq_true h
    rw [bl_no (by omega)]; rfl
  have h : i < s.size := by have := of_decide_eq_false h; omega
  rw [bl_at h] at no
  have hb : (s.get! i).toNat < 256 := UInt8.toNat_lt _
  rw [Int.toNat_natCast]
  refine Rq.mk ⟨by omega, by omega⟩ ⟨fun h1 => ⟨fun _ => qfin rfl (no ?_) rfl rfl⟩, fun h1 => Rq.mk ⟨by omega, by omega⟩ ⟨fun _ => ⟨fun h2 => qfin rfl (no ?_) rfl rfl, fun h2 => Rq.mk ⟨by omega, by omega⟩ (qfin rfl ?_ rfl rfl)⟩⟩⟩
  · have h1 := of_decide_eq_true h1
    rw [Bool.eq_false_iff]; intro q; have := ct_iff.1 q; omega
  · have h2 := of_decide_eq_true h2
    rw [Bool.eq_false_iff]; intro q; have := ct_iff.1 q; omega
  · have h1 := of_decide_eq_false h1
    have h2 := of_decide_eq_false h2
    show _ = [AV.int .i64 (lowB s i)]
    unfold lowB
    rw [Int.toNat_natCast, bl_at h, if_pos (ct_iff.2 (by omega)), wrap_id' (i := ((s.get! i).toNat : Int)) (by omega) (by omega), wrap_id' (by omega) (by omega)]
def blOf (z r : Bool) : List Int → List Blk
  | [] => [.box [.nil, .bool z], .box [.nil, .bool r]]
  | x :: l => [.box [.nil, .bool z], .box [.own 2 0, .bool r], .rowb 0 .int (x :: l)]
theorem of_sum : SumOK cxOf (LL Tryz.f136 [lsOf]) Tryz.f136.ntmps (loopAt Tryz.f136 0).1 (loopAt Tryz.f136 0).2 lsOf := by
  intro vs bs K hs
  unfold lsOf at hs
  simp only at hs
  split at hs
  case h_2 => exact hs.elim
  rename_i s i z r
  obtain ⟨⟨rfl, hsz, rfl⟩, h⟩ := hs
  refine sum_rec (σ := Nat × Bool × List Int) (fun q => [.str s, .ptr 0 0, .ptr 1 0, .int .i64 (q.1 : Nat)]) (fun q => blOf z q.2.1 q.2.2) (fun q => q.1 ≤ s.size ∧ q.2.2 ++ (uFrom s q.1).1 = (uFrom s 0).1 ∧ (q.2.1 && (uFrom s q.1).2) = (uFrom s 0).2 ∧ q.2.2.length ≤ q.1) (fun q => s.size - q.1) ?_ (0, true, []) ⟨Nat.zero_le _, rfl, rfl, Nat.le_refl _⟩
  rintro ⟨i, r, acc⟩ ⟨h1, h2, h3, h4⟩ R hR
  dsimp only at h1 h2 h3 h4 hR ⊢
  have hmx : maxSl = 140737488355328 := rfl
  have fin : s.size ≤ i → K (.exit 0) [.ptr 0 0, .ptr 1 0] (blOf z r acc) := fun q => by
    rw [uFrom_end q, List.append_nil] at h2
    rw [uFrom_end q, Bool.and_true] at h3
    rw [← h2, ← h3] at h
    cases acc with
    | nil => exact h.yes rfl
    | cons x l => exact h.no rfl
  have next : ∀ hi : i < s.size, ∀ b, b = (r && (gA s i).2.2) → R [.str s, .ptr 0 0, .ptr 1 0, .int .i64 (IntKind.i64.wrap ((i : Int) + (gA s i).2.1))] (blOf z b (acc ++ [(gA s i).1])) := fun hi b hb => by
    have hn := gA_n hi
    have st := uFrom_step hi
    have ew : IntKind.i64.wrap ((i : Int) + (gA s i).2.1) = ((i + (gA s i).2.1.toNat : Nat) : Int) := by rw [wrap_id'] <;> omega
    have e2 : ((i : Int) + (gA s i).2.1) = ((i + (gA s i).2.1.toNat : Nat) : Int) := by omega
    rw [e2] at st
    rw [ew]
    rw [st] at h2 h3
    refine hR (i + (gA s i).2.1.toNat, b, acc ++ [(gA s i).1]) ⟨by dsimp only; omega, ?_, ?_, ?_⟩ (by dsimp only; omega)
    · dsimp only; rw [List.append_assoc]; exact h2
    · dsimp only; rw [hb, Bool.and_assoc]; exact h3
    · dsimp only; rw [List.length_append]; simp only [List.length_cons, List.length_nil]; omega
  cases acc with
  | nil =>
    refine Eq.mpr (vcOf0 s z r i _) ⟨fun _ => ⟨fun q => ?_, fun q => fin (by have := of_decide_eq_false q; omega)⟩⟩
    have hi : i < s.size := by have := of_decide_eq_true q; omega
    refine Rq.mk ⟨by omega, by omega, hsz⟩ (Rq.mk (show 1 * 8 ≤ maxSl by decide) ⟨fun q2 => ?_, fun q2 => ?_⟩)
    · subst q2; exact next hi _ (by simp)
    · subst q2; exact next hi _ (by simp)
  | cons x l =>
    refine Eq.mpr (vcOf1 s z r i (x :: l) _) ⟨fun _ => ⟨fun q => ?_, fun q => fin (by have := of_decide_eq_false q; omega)⟩⟩
    have hi : i < s.size := by have := of_decide_eq_true q; omega
    refine Rq.mk ⟨by omega, by omega, hsz⟩ (Rq.mk ?_ ⟨fun q2 => ?_, fun q2 => ?_⟩)
    · simp only [List.length_cons, List.length_nil] at h4 ⊢; omega
    · subst q2; exact next hi _ (by simp)
    · subst q2; exact next hi _ (by simp)
theorem of_of (hA : Holds 146 conAt2) : Holds 136 conOf := conP_holds fun s => by
  rcases (show ∃ w : ByteArray, w = s from ⟨_, rfl⟩) with ⟨s, rfl⟩
  refine fun_meets1 (AllH.tok (.cons hA (by kernel_rfl) .nil)) [.row .int, .as] lsOf (by kernel_rfl) (by kernel_rfl) of_sum fun hpre => Eq.mpr (vcOfF s _) ?_
  have hs : s.size ≤ 1000000 := hpre _ rfl
  refine Rq.mk ⟨rfl, hs, rfl⟩ ⟨fun h => qfin rfl ?_ rfl rfl, fun h => qfin rfl rfl rfl rfl⟩
  have h := List.eq_nil_of_length_eq_zero (of_decide_eq_true h)
  show _ = [AV.agg [AV.row Ty.int (uFrom s 0).1, AV.bool (uFrom s 0).2]]
  rw [h]
theorem nm6_sum : SumOK cx0 (LL Tryz.f137 [lsNm6]) Tryz.f137.ntmps (loopAt Tryz.f137 0).1 (loopAt Tryz.f137 0).2 lsNm6 := by
  intro vs bs K hs
  unfold lsNm6 at hs
  simp only at hs
  split at hs
  case h_2 => exact hs.elim
  rename_i s i
  obtain ⟨rfl, h⟩ := hs
  refine sum_rec (σ := Nat) (fun i => [.str s, .int .i64 (i : Nat)]) (fun _ => []) (fun i => i ≤ s.size ∧ nmR i ((kb s).drop i) = nmR 0 (kb s)) (fun i => s.size - i) ?_ 0 ⟨Nat.zero_le _, rfl⟩
  rintro i ⟨hi, he⟩ R hR
  refine Eq.mpr (vcNm6B s i _) ⟨fun hm => ⟨fun q => ?_, fun q => ?_⟩⟩
  · have hlt : i < s.size := by have := of_decide_eq_true q; omega
    rw [kb_drop hlt, nmR] at he
    rw [Int.toNat_natCast, wrap_succ hlt hm]
    generalize hb : ((s.get! i).toNat : Int) = b at he ⊢
    have ret : ¬ ((97 ≤ b ∧ b ≤ 122) ∨ (i ≠ 0 ∧ ((48 ≤ b ∧ b ≤ 58) ∨ b = 45))) → K .ret [.str s, .bool false] [] := fun g => by
      have : (smI b || (i != 0 && mor b)) = false := Bool.eq_false_iff.2 fun q => g (nm_iff.1 q)
      rw [this, Bool.false_and] at he
      exact h.no he.symm
    have nxt : ((97 ≤ b ∧ b ≤ 122) ∨ (i ≠ 0 ∧ ((48 ≤ b ∧ b ≤ 58) ∨ b = 45))) → R [.str s, .int .i64 ((i + 1 : Nat) : Int)] [] := fun g => by
      rw [nm_iff.2 g, Bool.true_and] at he
      exact hR (i + 1) ⟨hlt, he⟩ (by omega)
    clear he hR h
    repeat' (first | refine Rq.mk ⟨by omega, by omega⟩ ?_ | refine Br.mk (fun _ => ?_) (fun _ => ?_) | fail)
    all_goals first
      | exact ret (by simp only [decide_eq_true_eq, decide_eq_false_iff_not, Bool.not_eq_true', Bool.not_eq_false', beq_iff_eq, beq_eq_false_iff_ne, ne_eq] at *; omega)
      | exact nxt (by simp only [decide_eq_true_eq, decide_eq_false_iff_not, Bool.not_eq_true', Bool.not_eq_false', beq_iff_eq, beq_eq_false_iff_ne, ne_eq] at *; omega)
  · have : i = s.size := by have := of_decide_eq_false q; omega
    subst this
    rw [List.drop_of_length_le (by rw [kb_size]; exact Nat.le_refl _)] at he
    exact h.yes he.symm
theorem nm6_holds : Holds 137 conNameP := conP_holds fun s => by
  rcases (show ∃ w : ByteArray, w = s from ⟨_, rfl⟩) with ⟨s, rfl⟩
  refine fun_meets1 tok0 [] lsNm6 (by kernel_rfl) (by kernel_rfl) nm6_sum fun _ => Eq.mpr (vcNm6F s _) ?_
  have e : ∀ b, nameB s = b → [AV.bool b] = compsOf (.bool (nameB s)) := fun b h => by rw [h]; rfl
  have hd := nameB_nm s
  refine Rq.mk rfl ⟨fun h => ⟨fun h1 => ⟨fun _ => ⟨fun _ => qfin rfl (e _ ?_) rfl rfl⟩⟩, fun h1 => ⟨fun _ => qfin rfl (e _ ?_) rfl rfl⟩⟩, fun h => qfin rfl (e _ ?_) rfl rfl⟩
  · have h1 : 0 < s.size := by have := of_decide_eq_true h1; omega
    rw [hd, h, decide_eq_true h1, Bool.true_and, Bool.true_and]
    rw [Bool.eq_iff_iff, decide_eq_true_eq, decide_eq_true_eq]; omega
  · have h1 : ¬ 0 < s.size := by have := of_decide_eq_false h1; omega
    rw [hd, decide_eq_false h1, Bool.and_false, Bool.false_and]
  · rw [hd, h, Bool.false_and, Bool.false_and]
theorem gd6_sum : SumOK cxGd6 (LL Tryz.f123 [lsGd6]) Tryz.f123.ntmps (loopAt Tryz.f123 0).1 (loopAt Tryz.f123 0).2 lsGd6 := by
  intro vs bs K hs
  unfold lsGd6 at hs
  simp only at hs
  split at hs
  case h_2 => exact hs.elim
  rename_i s i
  obtain ⟨rfl, h⟩ := hs
  refine sum_rec (σ := Nat) (fun i => [.str s, .int .i64 (i : Nat)]) (fun _ => []) (fun i => i ≤ s.size ∧ ((kb s).take i).all (fun b => gd1 (b.toNat : Int)) = true) (fun i => s.size - i) ?_ 0 ⟨Nat.zero_le _, rfl⟩
  rintro i ⟨hi, ha⟩ R hR
  refine Eq.mpr (vcGd6B s i _) ⟨fun hm => ⟨fun q => ?_, fun q => ?_⟩⟩
  · have hlt : i < s.size := by have := of_decide_eq_true q; omega
    rw [Int.toNat_natCast, wrap_succ hlt hm]
    refine Rq.mk ⟨by omega, by omega⟩ ⟨fun h1 => h.no (allP_no hlt ?_), fun h1 => Rq.mk ⟨by omega, by omega⟩ ⟨fun h2 => h.no (allP_no hlt ?_), fun h2 => hR (i + 1) ⟨hlt, ?_⟩ (by omega)⟩⟩
    · have h1 : ((s.get! i).toNat : Int) = 0 := by simpa using h1
      unfold gd1; rw [h1]; rfl
    · have h2 : ((s.get! i).toNat : Int) = 13 := by simpa using h2
      unfold gd1; rw [h2]; rfl
    · have e : gd1 ((s.get! i).toNat : Int) = true := by unfold gd1 bne; rw [h1, h2]; rfl
      rw [allP_take hlt, ha, e]; rfl
  · have : i = s.size := by have := of_decide_eq_false q; omega
    subst this
    rw [List.take_of_length_le (by rw [kb_len]; exact Nat.le_refl _)] at ha
    exact h.yes ha
theorem gd6_of (hO : Holds 136 conOf) : Holds 123 conGd6 := conP_holds fun s => by
  rcases (show ∃ w : ByteArray, w = s from ⟨_, rfl⟩) with ⟨s, rfl⟩
  refine fun_meets1 (AllH.tok (.cons hO (by kernel_rfl) .nil)) [] lsGd6 (by kernel_rfl) (by kernel_rfl) gd6_sum fun hpre => Eq.mpr (vcGd6F s _) ?_
  have hs : s.size ≤ 1000000 := hpre _ rfl
  have hd : goodB s = (rightU s && allP gd1 s) := by unfold goodB; rw [allP_gd]
  have e : ∀ b, goodB s = b → [AV.bool b] = compsOf (.bool (goodB s)) := fun b h => by rw [h]; rfl
  refine Rq.mk rfl ⟨fun h => Rq.mk hs (qfin rfl (e _ ?_) rfl rfl), fun h => qfin rfl (e _ ?_) rfl rfl⟩
  · rw [hd, h, Bool.and_true]; rfl
  · rw [hd, h, Bool.and_false]
theorem wr0_sum : SumOK cxWr6 (LL Tryz.f124 [lsWr0, lsWr1, lsWr2]) Tryz.f124.ntmps (loopAt Tryz.f124 0).1 (loopAt Tryz.f124 0).2 lsWr0 := by
  intro vs bs K hs
  unfold lsWr0 at hs
  simp only at hs
  split at hs
  case h_2 => exact hs.elim
  rename_i a a' m i
  rcases (show ∃ w : List At, w = a from ⟨_, rfl⟩) with ⟨a, rfl⟩
  obtain ⟨⟨ea, rfl, rfl, hl, hv⟩, h⟩ := hs
  have ea : a = a' := ea.symm
  subst ea
  have hm : a.length ≤ maxSl := by unfold maxSl; omega
  refine sum_rec (σ := Nat) (fun i => [.row .attr a, .row .attr a, .int .i64 a.length, .int .i64 (i : Nat)]) (fun _ => []) (fun i => i ≤ a.length ∧ (a.take i).all okA = true) (fun i => a.length - i) ?_ 0 ⟨Nat.zero_le _, rfl⟩
  rintro i ⟨hi, hall⟩ R hR
  refine Eq.mpr (vcWr0 a a.length i _) ⟨fun h1 => ?_, fun h1 => ?_⟩
  · have hlt : i < a.length := by have := of_decide_eq_true h1; omega
    rw [rd_atA hlt]
    have bad : okA a[i] = false → K .ret [.row .attr a, .int .i64 4] [] := fun hb => h.no (List.all_eq_false.2 ⟨_, List.getElem_mem hlt, by rw [hb]; decide⟩)
    refine Rq.mk ⟨by omega, by omega⟩ ⟨fun h2 => bad ?_, fun h2 => Rq.mk (hv _ (List.getElem_mem hlt)) ⟨fun h3 => bad ?_, fun h3 => ?_⟩⟩
    · have h2 : nameB a[i].name = false := by simpa using h2
      unfold okA; rw [h2]; rfl
    · have h3 : goodB a[i].value = false := by simpa using h3
      unfold okA; rw [h3, Bool.and_false]
    · have h2 : nameB a[i].name = true := by simpa using h2
      have h3 : goodB a[i].value = true := by simpa using h3
      rw [wrap_succ hlt hm]
      exact hR (i + 1) ⟨hlt, by rw [← take_snoc hlt, List.all_append, hall, List.all_cons, okA_iff.2 ⟨h2, h3⟩]; rfl⟩ (by omega)
  · have : i = a.length := by have := of_decide_eq_false h1; omega
    subst this
    rw [List.take_length] at hall
    exact h.yes hall
theorem wr1_sum : SumOK cxWr6 (LL Tryz.f124 [lsWr0, lsWr1, lsWr2]) Tryz.f124.ntmps (loopAt Tryz.f124 1).1 (loopAt Tryz.f124 1).2 lsWr1 := by
  intro vs bs K hs
  unfold lsWr1 at hs
  simp only at hs
  split at hs
  case h_2 => exact hs.elim
  rename_i a a' m i
  rcases (show ∃ w : List At, w = a from ⟨_, rfl⟩) with ⟨a, rfl⟩
  obtain ⟨⟨ea, rfl, rfl, hb⟩, h⟩ := hs
  have ea : a = a' := ea.symm
  subst ea
  have hl := hb.1
  have hm : a.length ≤ maxSl := by unfold maxSl; omega
  refine sum_rec (σ := Nat) (fun i => [.row .attr a, .row .attr a, .int .i64 a.length, .int .i64 (i : Nat)]) (fun _ => []) (fun i => i ≤ a.length ∧ twiceB (a.take i) = false) (fun i => a.length - i) ?_ 0 ⟨Nat.zero_le _, rfl⟩
  rintro i ⟨hi, ht⟩ R hR
  refine Eq.mpr (vcWr1 a a.length i _) ⟨fun h1 => ?_, fun h1 => ?_⟩
  · have hlt : i < a.length := by have := of_decide_eq_true h1; omega
    have e := twI_eq hlt
    rw [ht, Bool.false_or] at e
    refine Rq.mk ⟨by omega, by omega⟩ ⟨fun _ => Rq.mk ⟨rfl, rfl, rfl, by omega, by omega, rfl, hb⟩ ⟨fun h2 => h.yes ?_, fun h2 => ?_⟩⟩
    · rw [h2] at e
      have := twice_app _ (a.drop (i + 1)) e
      rwa [List.take_append_drop] at this
    · rw [wrap_succ hlt hm]
      exact hR (i + 1) ⟨hlt, by rw [e, h2]⟩ (by omega)
  · have : i = a.length := by have := of_decide_eq_false h1; omega
    subst this
    rw [List.take_length] at ht
    exact h.no ht
theorem wr2_sum : SumOK cxWr6 (LL Tryz.f124 [lsWr0, lsWr1, lsWr2]) Tryz.f124.ntmps (loopAt Tryz.f124 2).1 (loopAt Tryz.f124 2).2 lsWr2 := by
  intro vs bs K hs
  unfold lsWr2 at hs
  simp only at hs
  split at hs
  case h_2 => exact hs.elim
  rename_i a i a1 m j a' n k x y
  rcases (show ∃ w : List At, w = a from ⟨_, rfl⟩) with ⟨a, rfl⟩
  obtain ⟨⟨ea, rfl, rfl, h0, hi, hx, hb⟩, h⟩ := hs
  have ea : a = a' := ea.symm
  subst ea
  subst hx
  have hl := hb.1
  have hm : a.length ≤ maxSl := by unfold maxSl; omega
  obtain ⟨i, rfl⟩ := Int.eq_ofNat_of_zero_le h0
  refine sum_rec (σ := Nat) (fun k => [.row .attr a, .int .i64 i, .ptr 0 0, .row .attr a1, .int .i64 m, .int .i64 j, .row .attr a, .int .i64 a.length, .int .i64 (k : Nat)]) (fun _ => [.box [.str (rd Ty.attr a i).name, .str y]]) (fun k => k ≤ a.length ∧ (((a.take i).take k).any fun b => eqS (rd Ty.attr a i).name b.name) = false) (fun k => a.length - k) ?_ 0 ⟨Nat.zero_le _, rfl⟩
  rintro k ⟨hk, ht⟩ R hR
  refine Eq.mpr (vcWr2 a a1 _ y i m j a.length k _) ⟨fun h1 => ?_, fun h1 => ?_⟩
  · have hlt : k < a.length := by have := of_decide_eq_true h1; omega
    rw [wrap_succ hlt hm]
    refine Rq.mk ⟨by omega, by omega⟩ ⟨fun h2 => ?_, fun h2 => hR (k + 1) ⟨hlt, ?_⟩ (by omega)⟩
    · have hki : k < i := by have := of_decide_eq_true h2; omega
      have hkl : k < (a.take i).length := by rw [List.length_take]; omega
      have e : (((a.take i).take (k + 1)).any fun b => eqS (rd Ty.attr a i).name b.name) = eqS (rd Ty.attr a i).name (rd Ty.attr a k).name := by
        rw [← take_snoc hkl, List.any_append, ht, Bool.false_or, List.any_cons, List.any_nil, Bool.or_false, rd_atA hlt, List.getElem_take]
      refine ⟨fun h3 => h.yes ?_, fun h3 => hR (k + 1) ⟨hlt, e.trans h3⟩ (by omega)⟩
      have h3 : eqS (rd Ty.attr a i).name (rd Ty.attr a k).name = true := h3
      unfold twI
      rw [Int.toNat_natCast, List.any_eq_true]
      rw [h3, List.any_eq_true] at e
      obtain ⟨z, hz, q⟩ := e
      exact ⟨z, List.mem_of_mem_take hz, q⟩
    · have hki : i ≤ k := by have := of_decide_eq_false h2; omega
      rw [List.take_of_length_le (by rw [List.length_take]; omega)] at ht ⊢
      exact ht
  · have hge : a.length ≤ k := by have := of_decide_eq_false h1; omega
    rw [List.take_of_length_le (by rw [List.length_take]; omega)] at ht
    exact h.no (by unfold twI; rw [Int.toNat_natCast]; exact ht)
end Go.Proofs.YtnhipiedjekkpaaGreatDoor.AX
end
section
namespace Go.Proofs.YtnhipiedjekkpaaGreatDoor.AXP
open Go Go.Proofs.YtnhipiedjekkpaaGreatDoor.AX
theorem bl_kb (s : ByteArray) : bl s = (kb s).map fun b => (b.toNat : Int) := rfl
theorem bl_inj {a b : ByteArray} (h : bl a = bl b) : a = b := by
  rw [bl_kb, bl_kb] at h
  exact kb_inj ((List.map_inj_right (fun x y q => UInt8.toNat_inj.1 (by omega))).1 h)
theorem bl_encS {c : Int} (h : isC c = true) : bl (encS c) = encB c := by
  rw [bl_kb]
  unfold encS
  rw [kb_bk, List.map_map]
  have hr := encB_range h
  have : ∀ l : List Int, (∀ x ∈ l, 0 ≤ x ∧ x ≤ 255) → l.map ((fun b : UInt8 => (b.toNat : Int)) ∘ fun x => UInt8.ofNat x.toNat) = l := by
    intro l
    induction l with
    | nil => intro _; rfl
    | cons x l ih =>
      intro hl
      have hx := hl x (.head _)
      rw [List.map_cons, ih fun y hy => hl y (.tail _ hy)]
      congr 1
      show ((UInt8.ofNat x.toNat).toNat : Int) = x
      rw [u8_of (by omega)]; omega
  exact this _ hr
theorem encS_size (c : Int) : (encS c).size = (encB c).length := by unfold encS; rw [bk_size, List.length_map]
end Go.Proofs.YtnhipiedjekkpaaGreatDoor.AXP
namespace Go.Proofs.YtnhipiedjekkpaaGreatDoor.AX
open Go AXP
set_option maxRecDepth 100000
def at2T (s : ByteArray) (i : Int) (Q : List AV → List Blk → List Blk → Prop) (c : Int) : Prop :=
  Br (!isC c) (Q [AV.agg [AV.int IntKind.i64 (65533 : Int), AV.int IntKind.i64 (1 : Int), AV.bool false]] [] [])
    (Rq (isC c = true)
      (Br (decide (IntKind.i64.wrap ((s.size : Int) - i) < ((encS c).size : Int)))
        (Gv (s.size ≤ maxSl) (Gv ((encS c).size ≤ maxSl) (Q [AV.agg [AV.int IntKind.i64 (65533 : Int), AV.int IntKind.i64 (1 : Int), AV.bool false]] [] [])))
        (Rq ((0 : Int) ≤ i ∧ i ≤ IntKind.i64.wrap (i + ((encS c).size : Int)) ∧ IntKind.i64.wrap (i + ((encS c).size : Int)) ≤ (s.size : Int))
          (Gv (s.size ≤ maxSl) (Gv ((encS c).size ≤ maxSl) (Gv ((encS c).size ≤ maxSl)
            (Br (!eqS (s.extract i.toNat (IntKind.i64.wrap (i + ((encS c).size : Int))).toNat) (encS c))
              (Q [AV.agg [AV.int IntKind.i64 (65533 : Int), AV.int IntKind.i64 (1 : Int), AV.bool false]] [] [])
              (Gv ((encS c).size ≤ maxSl) (Q [AV.agg [AV.int IntKind.i64 c, AV.int IntKind.i64 ((encS c).size : Int), AV.bool true]] [] [])))))))))
def at2b (s : ByteArray) (i : Int) : Int := IntKind.i64.wrap ((s.get! i.toNat).toNat : Int)
def at2l (s : ByteArray) (i j : Int) : Int := lowB s (IntKind.i64.wrap (i + j))
def at2n3 (s : ByteArray) (i : Int) (Q : List AV → List Blk → List Blk → Prop) : Prop :=
  Br (decide (at2b s i ≥ (240 : Int))) (Br (decide (at2b s i < (248 : Int))) (Br (decide (at2l s i 1 ≥ (0 : Int))) (Br (decide (at2l s i 2 ≥ (0 : Int))) (Br (decide (at2l s i 3 ≥ (0 : Int)))
    (at2T s i Q (IntKind.i64.wrap (IntKind.i64.wrap (IntKind.i64.wrap (IntKind.i64.wrap ((262144 : Int) * IntKind.i64.wrap (at2b s i - (240 : Int))) + IntKind.i64.wrap ((4096 : Int) * at2l s i 1)) + IntKind.i64.wrap ((64 : Int) * at2l s i 2)) + at2l s i 3)))
    (at2T s i Q (-1))) (at2T s i Q (-1))) (at2T s i Q (-1))) (at2T s i Q (-1))) (at2T s i Q (-1))
def at2n2 (s : ByteArray) (i : Int) (Q : List AV → List Blk → List Blk → Prop) : Prop :=
  Br (decide (at2b s i ≥ (224 : Int))) (Br (decide (at2b s i < (240 : Int))) (Br (decide (at2l s i 1 ≥ (0 : Int))) (Br (decide (at2l s i 2 ≥ (0 : Int)))
    (at2T s i Q (IntKind.i64.wrap (IntKind.i64.wrap (IntKind.i64.wrap ((4096 : Int) * IntKind.i64.wrap (at2b s i - (224 : Int))) + IntKind.i64.wrap ((64 : Int) * at2l s i 1)) + at2l s i 2)))
    (at2n3 s i Q)) (at2n3 s i Q)) (at2n3 s i Q)) (at2n3 s i Q)
def at2n1 (s : ByteArray) (i : Int) (Q : List AV → List Blk → List Blk → Prop) : Prop :=
  Br (decide (at2b s i ≥ (192 : Int))) (Br (decide (at2b s i < (224 : Int))) (Br (decide (at2l s i 1 ≥ (0 : Int)))
    (at2T s i Q (IntKind.i64.wrap (IntKind.i64.wrap ((64 : Int) * IntKind.i64.wrap (at2b s i - (192 : Int))) + at2l s i 1)))
    (at2n2 s i Q)) (at2n2 s i Q)) (at2n2 s i Q)
theorem vcAt2F (s : ByteArray) (i : Int) (Q : List AV → List Blk → List Blk → Prop) : (funA cxAt2 (LL Tryz.f146 []) Tryz.f146 [.str s, .int .i64 i] [] [] Q) = (
    Rq ((0 : Int) ≤ i ∧ i < (s.size : Int)) (Rq ((0 : Int) ≤ IntKind.i64.wrap (i + (1 : Int))) (Rq ((0 : Int) ≤ IntKind.i64.wrap (i + (2 : Int))) (Rq ((0 : Int) ≤ IntKind.i64.wrap (i + (3 : Int)))
      (Br (decide (at2b s i < (128 : Int))) (at2T s i Q (at2b s i)) (at2n1 s i Q)))))) := by kernel_rfl
theorem at2T_ok {s : ByteArray} {i : Nat} (h : i < s.size) (hs : s.size ≤ 1000000) (Q : List AV → List Blk → List Blk → Prop) (c : Int)
    (hQ : ∀ r : Int × Int × Bool, uSt ((bl s).drop i) c = r → Q [AV.agg [AV.int IntKind.i64 r.1, AV.int IntKind.i64 r.2.1, AV.bool r.2.2]] [] []) : at2T s i Q c := by
  have hl : ((bl s).drop i).length = s.size - i := by rw [List.length_drop, bl_length]
  unfold at2T
  refine Br.mk (fun h1 => hQ uBad ?_) fun h1 => ?_
  · have h1 : ¬ isC c = true := by simpa using h1
    exact uSt_no h1
  have h1 : isC c = true := by simpa using h1
  have hz := encS_size c
  have hen := encB_length c
  have e1 : IntKind.i64.wrap ((s.size : Int) - (i : Int)) = ((s.size - i : Nat) : Int) := by rw [wrap_id'] <;> omega
  have e2 : IntKind.i64.wrap ((i : Int) + ((encS c).size : Int)) = ((i + (encS c).size : Nat) : Int) := by rw [wrap_id'] <;> omega
  rw [e1, e2]
  refine Rq.mk h1 (Br.mk (fun h2 => Gv.mk fun _ => Gv.mk fun _ => hQ uBad ?_) fun h2 => ?_)
  · have h2 := of_decide_eq_true h2
    unfold uSt
    rw [if_neg]
    rintro ⟨_, q⟩
    have := congrArg List.length q
    rw [List.length_take, hl] at this
    omega
  have h2 := of_decide_eq_false h2
  refine Rq.mk ⟨by omega, by omega, by omega⟩ (Gv.mk fun _ => Gv.mk fun _ => Gv.mk fun _ => ?_)
  rw [Int.toNat_natCast, Int.toNat_natCast]
  have hx : eqS (s.extract i (i + (encS c).size)) (encS c) = true ↔ ((bl s).drop i).take (encB c).length = encB c := by
    rw [eqS_iff]
    constructor
    · intro q
      have := congrArg bl q
      rw [bl_extract, bl_encS h1, hz, Nat.add_sub_cancel_left] at this
      exact this
    · intro q
      apply bl_inj
      rw [bl_extract, bl_encS h1, hz, Nat.add_sub_cancel_left]
      exact q
  refine Br.mk (fun h3 => hQ uBad ?_) fun h3 => Gv.mk fun _ => hQ (c, ((encS c).size : Int), true) ?_
  · have h3 : ¬ eqS (s.extract i (i + (encS c).size)) (encS c) = true := by simpa using h3
    unfold uSt
    rw [if_neg fun q => h3 (hx.2 q.2)]
  · have h3 : eqS (s.extract i (i + (encS c).size)) (encS c) = true := by simpa using h3
    unfold uSt
    rw [if_pos ⟨h1, hx.1 h3⟩, hz]
theorem at2_holds : Holds 146 conAt2 := conP_holds fun s i => by
  rcases (show ∃ w : ByteArray, w = s from ⟨_, rfl⟩) with ⟨s, rfl⟩
  rcases (show ∃ w : Int, w = i from ⟨_, rfl⟩) with ⟨i, rfl⟩
  refine fun_meets0 (AllH.tok (.cons is2_holds (by kernel_rfl) (.cons by2_holds (by kernel_rfl) (.cons low_holds (by kernel_rfl) .nil)))) [] (by kernel_rfl) (by kernel_rfl) fun hpre => Eq.mpr (vcAt2F s i _) ?_
  obtain ⟨h0, hi, hs⟩ : 0 ≤ i ∧ i < s.size ∧ s.size ≤ 1000000 := hpre _ rfl
  obtain ⟨i, rfl⟩ := Int.eq_ofNat_of_zero_le h0
  have hi : i < s.size := by omega
  have w1 : IntKind.i64.wrap ((i : Int) + 1) = ((i + 1 : Nat) : Int) := by rw [wrap_id'] <;> omega
  have w2 : IntKind.i64.wrap ((i : Int) + 2) = ((i + 2 : Nat) : Int) := by rw [wrap_id'] <;> omega
  have w3 : IntKind.i64.wrap ((i : Int) + 3) = ((i + 3 : Nat) : Int) := by rw [wrap_id'] <;> omega
  refine Rq.mk ⟨h0, by omega⟩ (Rq.mk (by rw [w1]; omega) (Rq.mk (by rw [w2]; omega) (Rq.mk (by rw [w3]; omega) ?_)))
  have x0 : at2b s i = ((bl s).drop i).getD 0 (-1) := by
    have hb : (s.get! i).toNat < 256 := UInt8.toNat_lt _
    unfold at2b
    rw [drop_getD, Nat.add_zero, bl_at hi, Int.toNat_natCast, wrap_id'] <;> omega
  have xj : ∀ j : Nat, IntKind.i64.wrap ((i : Int) + (j : Int)) = ((i + j : Nat) : Int) → at2l s i j = if ct (((bl s).drop i).getD j (-1)) = true then ((bl s).drop i).getD j (-1) - 128 else -1 := fun j hj => by
    unfold at2l lowB
    rw [hj, Int.toNat_natCast, drop_getD]
  have x1 := xj 1 w1
  have x2 := xj 2 w2
  have x3 := xj 3 w3
  have r0 : 0 ≤ ((bl s).drop i).getD 0 (-1) ∧ ((bl s).drop i).getD 0 (-1) ≤ 255 := by
    have hb : (s.get! i).toNat < 256 := UInt8.toNat_lt _
    rw [drop_getD, Nat.add_zero, bl_at hi]; omega
  have key : ∀ c, c = cOf (((bl s).drop i).getD 0 (-1)) (((bl s).drop i).getD 1 (-1)) (((bl s).drop i).getD 2 (-1)) (((bl s).drop i).getD 3 (-1)) → at2T s i (FinQ { pre := some (0 ≤ (i : Int) ∧ (i : Int) < s.size ∧ s.size ≤ 1000000), res := .agg [.int .i64 (gA s i).1, .int .i64 (gA s i).2.1, .bool (gA s i).2.2] }) c := fun c hc => by
    refine at2T_ok hi hs _ c fun r hr => ?_
    rw [hc, uSt_cOf r0.1] at hr
    have : gA s i = r := by unfold gA; rw [Int.toNat_natCast]; exact hr
    rw [this]
    exact qfin rfl rfl rfl rfl
  unfold at2n1 at2n2 at2n3
  change at2l s i 1 = _ at x1
  change at2l s i 2 = _ at x2
  change at2l s i 3 = _ at x3
  rw [x0, x1, x2, x3]
  generalize ((bl s).drop i).getD 0 (-1) = b0 at *
  generalize ((bl s).drop i).getD 1 (-1) = b1 at *
  generalize ((bl s).drop i).getD 2 (-1) = b2 at *
  generalize ((bl s).drop i).getD 3 (-1) = b3 at *
  clear x0 x1 x2 x3 xj
  have w : ∀ x : Int, -10000000 ≤ x → x ≤ 10000000 → IntKind.i64.wrap x = x := fun x h0 h1 => wrap_id' (by omega) (by omega)
  have lt : ∀ b : Int, (if ct b = true then b - 128 else -1) ≥ 0 ↔ ct b = true := fun b => by
    by_cases q : ct b = true
    · rw [if_pos q]
      have := ct_iff.1 q
      exact ⟨fun _ => q, fun _ => by omega⟩
    · rw [if_neg q]
      exact ⟨fun h => absurd h (by decide), fun h => absurd h q⟩
  have lp : ∀ b : Int, ct b = true → (if ct b = true then b - 128 else -1) = b - 128 ∧ 0 ≤ b - 128 ∧ b - 128 ≤ 63 := fun b q => by
    have := ct_iff.1 q
    exact ⟨if_pos q, by omega, by omega⟩
  unfold cOf at key
  refine Br.mk (fun a1 => key _ ?_) fun a1 => ?_
  · rw [if_pos (of_decide_eq_true a1)]
  have a1 := of_decide_eq_false a1
  rw [if_neg a1] at key
  have n3 : ¬ (192 ≤ b0 ∧ b0 < 224 ∧ ct b1 = true) → ¬ (224 ≤ b0 ∧ b0 < 240 ∧ ct b1 = true ∧ ct b2 = true) → Br (decide (b0 ≥ (240 : Int))) (Br (decide (b0 < (248 : Int))) (Br (decide ((if ct b1 = true then b1 - 128 else -1) ≥ (0 : Int))) (Br (decide ((if ct b2 = true then b2 - 128 else -1) ≥ (0 : Int))) (Br (decide ((if ct b3 = true then b3 - 128 else -1) ≥ (0 : Int)))
    (at2T s i _ (IntKind.i64.wrap (IntKind.i64.wrap (IntKind.i64.wrap (IntKind.i64.wrap ((262144 : Int) * IntKind.i64.wrap (b0 - (240 : Int))) + IntKind.i64.wrap ((4096 : Int) * (if ct b1 = true then b1 - 128 else -1))) + IntKind.i64.wrap ((64 : Int) * (if ct b2 = true then b2 - 128 else -1))) + (if ct b3 = true then b3 - 128 else -1))))
    (at2T s i _ (-1))) (at2T s i _ (-1))) (at2T s i _ (-1))) (at2T s i _ (-1))) (at2T s i _ (-1)) := fun q1 q2 => by
    rw [if_neg q1, if_neg q2] at key
    have no : ¬ (240 ≤ b0 ∧ b0 < 248 ∧ ct b1 = true ∧ ct b2 = true ∧ ct b3 = true) → at2T s i _ (-1) := fun g => key _ (by rw [if_neg g])
    refine Br.mk (fun d1 => Br.mk (fun d2 => Br.mk (fun d3 => Br.mk (fun d4 => Br.mk (fun d5 => key _ ?_) fun d5 => no fun g => ?_) fun d4 => no fun g => ?_) fun d3 => no fun g => ?_) fun d2 => no fun g => ?_) fun d1 => no fun g => ?_
    · have d1 := of_decide_eq_true d1
      have d2 := of_decide_eq_true d2
      have d3 := (lt b1).1 (of_decide_eq_true d3)
      have d4 := (lt b2).1 (of_decide_eq_true d4)
      have d5 := (lt b3).1 (of_decide_eq_true d5)
      obtain ⟨e3, f3, g3⟩ := lp b1 d3
      obtain ⟨e4, f4, g4⟩ := lp b2 d4
      obtain ⟨e5, f5, g5⟩ := lp b3 d5
      rw [if_pos (show 240 ≤ b0 ∧ b0 < 248 ∧ ct b1 = true ∧ ct b2 = true ∧ ct b3 = true from ⟨d1, d2, d3, d4, d5⟩), e3, e4, e5, w (b0 - 240) (by omega) (by omega), w (262144 * (b0 - 240)) (by omega) (by omega), w (4096 * (b1 - 128)) (by omega) (by omega), w (64 * (b2 - 128)) (by omega) (by omega), w (262144 * (b0 - 240) + 4096 * (b1 - 128)) (by omega) (by omega), w (262144 * (b0 - 240) + 4096 * (b1 - 128) + 64 * (b2 - 128)) (by omega) (by omega), w (262144 * (b0 - 240) + 4096 * (b1 - 128) + 64 * (b2 - 128) + (b3 - 128)) (by omega) (by omega)]
    · exact (of_decide_eq_false d5) ((lt b3).2 g.2.2.2.2)
    · exact (of_decide_eq_false d4) ((lt b2).2 g.2.2.2.1)
    · exact (of_decide_eq_false d3) ((lt b1).2 g.2.2.1)
    · exact (of_decide_eq_false d2) g.2.1
    · exact (of_decide_eq_false d1) g.1
  have n2 : ¬ (192 ≤ b0 ∧ b0 < 224 ∧ ct b1 = true) → Br (decide (b0 ≥ (224 : Int))) (Br (decide (b0 < (240 : Int))) (Br (decide ((if ct b1 = true then b1 - 128 else -1) ≥ (0 : Int))) (Br (decide ((if ct b2 = true then b2 - 128 else -1) ≥ (0 : Int)))
    (at2T s i _ (IntKind.i64.wrap (IntKind.i64.wrap (IntKind.i64.wrap ((4096 : Int) * IntKind.i64.wrap (b0 - (224 : Int))) + IntKind.i64.wrap ((64 : Int) * (if ct b1 = true then b1 - 128 else -1))) + (if ct b2 = true then b2 - 128 else -1)))) _) _) _) _ := fun q1 => by
    refine Br.mk (fun d1 => Br.mk (fun d2 => Br.mk (fun d3 => Br.mk (fun d4 => key _ ?_) fun d4 => n3 q1 fun g => ?_) fun d3 => n3 q1 fun g => ?_) fun d2 => n3 q1 fun g => ?_) fun d1 => n3 q1 fun g => ?_
    · have d1 := of_decide_eq_true d1
      have d2 := of_decide_eq_true d2
      have d3 := (lt b1).1 (of_decide_eq_true d3)
      have d4 := (lt b2).1 (of_decide_eq_true d4)
      obtain ⟨e3, f3, g3⟩ := lp b1 d3
      obtain ⟨e4, f4, g4⟩ := lp b2 d4
      rw [if_neg q1, if_pos (show 224 ≤ b0 ∧ b0 < 240 ∧ ct b1 = true ∧ ct b2 = true from ⟨d1, d2, d3, d4⟩), e3, e4, w (b0 - 224) (by omega) (by omega), w (4096 * (b0 - 224)) (by omega) (by omega), w (64 * (b1 - 128)) (by omega) (by omega), w (4096 * (b0 - 224) + 64 * (b1 - 128)) (by omega) (by omega), w (4096 * (b0 - 224) + 64 * (b1 - 128) + (b2 - 128)) (by omega) (by omega)]
    · exact (of_decide_eq_false d4) ((lt b2).2 g.2.2.2)
    · exact (of_decide_eq_false d3) ((lt b1).2 g.2.2.1)
    · exact (of_decide_eq_false d2) g.2.1
    · exact (of_decide_eq_false d1) g.1
  refine Br.mk (fun d1 => Br.mk (fun d2 => Br.mk (fun d3 => key _ ?_) fun d3 => n2 fun g => ?_) fun d2 => n2 fun g => ?_) fun d1 => n2 fun g => ?_
  · have d1 := of_decide_eq_true d1
    have d2 := of_decide_eq_true d2
    have d3 := (lt b1).1 (of_decide_eq_true d3)
    obtain ⟨e3, f3, g3⟩ := lp b1 d3
    rw [if_pos (show 192 ≤ b0 ∧ b0 < 224 ∧ ct b1 = true from ⟨d1, d2, d3⟩), e3, w (b0 - 192) (by omega) (by omega), w (64 * (b0 - 192)) (by omega) (by omega), w (64 * (b0 - 192) + (b1 - 128)) (by omega) (by omega)]
  · exact (of_decide_eq_false d3) ((lt b1).2 g.2.2)
  · exact (of_decide_eq_false d2) g.2.1
  · exact (of_decide_eq_false d1) g.1
theorem gd6_holds : Holds 123 conGd6 := gd6_of (of_of at2_holds)
theorem wr6_holds : Holds 124 conWr6 := conP_holds fun m a => by
  rcases (show ∃ w : ByteArray, w = m from ⟨_, rfl⟩) with ⟨m, rfl⟩
  rcases (show ∃ w : List At, w = a from ⟨_, rfl⟩) with ⟨a, rfl⟩
  refine fun_meetsL (AllH.tok (.cons nm6_holds (by kernel_rfl) (.cons gd6_holds (by kernel_rfl) .nil))) [] [lsWr0, lsWr1, lsWr2] (by kernel_rfl) (by kernel_rfl) (fun i z hz => by
    match i, hz with
    | 0, hz => injection hz with hz; subst hz; exact wr0_sum
    | 1, hz => injection hz with hz; subst hz; exact wr1_sum
    | 2, hz => injection hz with hz; subst hz; exact wr2_sum) fun hpre => Eq.mpr (vcWrF m a _) ?_
  have hb : oBnd a := hpre _ rfl
  have e : ∀ b, wrongE m a = b → [AV.int .i64 b] = compsOf (.int .i64 (wrongE m a)) := fun b h => by rw [h]; rfl
  refine ⟨fun h => qfin rfl (e _ ?_) rfl rfl, fun h => ⟨fun _ => Rq.mk ⟨rfl, rfl, rfl, hb⟩ ⟨fun h1 => ⟨fun _ => Rq.mk ⟨rfl, rfl, rfl, hb⟩ ⟨fun h2 => qfin rfl (e _ ?_) rfl rfl, fun h2 => ⟨fun _ => ⟨fun h3 => qfin rfl (e _ ?_) rfl rfl, fun h3 => qfin rfl (e _ ?_) rfl rfl⟩⟩⟩⟩, fun h1 => qfin rfl (e _ ?_) rfl rfl⟩⟩⟩
  all_goals unfold wrongE; rw [wrong_all]
  · rw [if_pos (by simpa using h)]
  all_goals rw [if_neg (show ¬ nameB m = false by simpa using h)]
  · rw [h1, if_neg (by decide), if_pos h2]
  · rw [h1, if_neg (by decide), if_neg (by rw [h2]; decide), if_pos (of_decide_eq_true h3)]
  · rw [h1, if_neg (by decide), if_neg (by rw [h2]; decide), if_neg (of_decide_eq_false h3)]
  · rw [h1, if_pos (by decide)]
end Go.Proofs.YtnhipiedjekkpaaGreatDoor.AX
end
section
namespace Go.Proofs.YtnhipiedjekkpaaGreatDoor.AXP
open Go Go.Proofs.YtnhipiedjekkpaaGreatDoor.AX
end Go.Proofs.YtnhipiedjekkpaaGreatDoor.AXP
namespace Go.Proofs.YtnhipiedjekkpaaGreatDoor.AX
open Go AXP
end Go.Proofs.YtnhipiedjekkpaaGreatDoor.AX
end
section
namespace Go.Proofs.YtnhipiedjekkpaaGreatDoor.AX
open Go AXP
set_option maxRecDepth 100000
end Go.Proofs.YtnhipiedjekkpaaGreatDoor.AX
end
section
namespace Go.Proofs.YtnhipiedjekkpaaGreatDoor.AXP
open Go Go.Proofs.YtnhipiedjekkpaaGreatDoor.AX
end Go.Proofs.YtnhipiedjekkpaaGreatDoor.AXP
namespace Go.Proofs.YtnhipiedjekkpaaGreatDoor.AX
open Go AXP
set_option maxRecDepth 100000
end Go.Proofs.YtnhipiedjekkpaaGreatDoor.AX
end
section
namespace Go.Proofs.YtnhipiedjekkpaaGreatDoor.AXP
open Go Go.Proofs.YtnhipiedjekkpaaGreatDoor.AX
end Go.Proofs.YtnhipiedjekkpaaGreatDoor.AXP
namespace Go.Proofs.YtnhipiedjekkpaaGreatDoor.AX
open Go AXP
noncomputable def conCn8Lt (k : Nat) : Con := conP [.row .node] fun (l : List Nd) => { pre := some (szNds l < k ∧ cntNds l < 1000000), res := .int .i64 (cntNds l) }
noncomputable def cxCn8 (k : Nat) : Cx := cxT (tabLook [(109, conCn8Lt k)])
noncomputable def lsCn8 (k : Nat) : LS where
  keep := [(3, .as), (6, .as), (7, .as), (8, .as)]
  left := [(3, .as)]
  sum := fun vs bs K => match vs, bs with
    | [.int .i64 n, .row .node l, .int .i64 m, .int .i64 i], [] => Rq (n = 0 ∧ m = l.length ∧ i = 0 ∧ szNds l < k + 1 ∧ cntNds l < 1000000) (K (.exit 0) [.int .i64 (cntNds l)] [])
    | _, _ => False
noncomputable def conDp8Lt (k : Nat) : Con := conP [.row .node] fun (l : List Nd) => { pre := some (szNds l < k ∧ cntNds l < 1000000), res := .int .i64 (dpRs l) }
noncomputable def cxDp8 (k : Nat) : Cx := cxT (tabLook [(110, conDp8Lt k), (107, conLeaf)])
noncomputable def lsDp8 (k : Nat) : LS where
  keep := [(3, .as), (7, .as), (8, .as), (9, .as)]
  left := [(3, .as)]
  sum := fun vs bs K => match vs, bs with
    | [.int .i64 n, .row .node l, .int .i64 m, .int .i64 i], [] => Rq (n = 0 ∧ m = l.length ∧ i = 0 ∧ szNds l < k + 1 ∧ cntNds l < 1000000) (K (.exit 0) [.int .i64 (dpRs l)] [])
    | _, _ => False
noncomputable def conRi8Lt (k : Nat) : Con := conP [.row .node] fun (l : List Nd) => { pre := some (szNds l < k ∧ bndNds l), res := .bool (riRs l false) }
noncomputable def cxRi8 (k : Nat) : Cx := cxT (tabLook [(107, conLeaf), (123, conGd6), (124, conWr6), (111, conRi8Lt k)])
noncomputable def lsRi8 (k : Nat) : LS where
  keep := [(0, .as), (5, .as), (6, .as), (7, .as)]
  left := [(2, .as)]
  sum := fun vs bs K => match vs, bs with
    | [.row .node l, .row .node l', .int .i64 m, .int .i64 i], [] => Rq (l' = l ∧ m = l.length ∧ i = 0 ∧ szNds l < k + 1 ∧ l.length ≤ maxSl ∧ bndNds l) (Br (riRs l false) (K (.exit 0) [.any] []) (K .ret [.bool false] []))
    | _, _ => False
def conCn8 : Con := conP [.row .node] fun (l : List Nd) => { pre := some (cntNds l < 1000000), res := .int .i64 (cntNds l) }
def conDp8 : Con := conP [.row .node] fun (l : List Nd) => { pre := some (cntNds l < 1000000), res := .int .i64 (dpRs l) }
def conRi8 : Con := conP [.row .node] fun (l : List Nd) => { pre := some (bndNds l), res := .bool (riRs l false) }
noncomputable def cxCk8 : Cx := cxT (tabLook [(109, conCn8), (110, conDp8), (111, conRi8)])
def conCk8 : Con := conP [.row .node] fun (l : List Nd) => { pre := some (fineNds l), res := .int .i64 (checkS l) }
end Go.Proofs.YtnhipiedjekkpaaGreatDoor.AX
end
section
namespace Go.Proofs.YtnhipiedjekkpaaGreatDoor.AX
open Go AXP
set_option maxRecDepth 100000
theorem vcLf8F (n : Nd) (Q : List AV → List Blk → List Blk → Prop) : (funA cx0 (LL Tryz.f107 []) Tryz.f107 [.agg (nodeL n)] [] [] Q) = (
Br (n.1 == (2 : Int)) (Q [AV.bool true] [] []) (Q [AV.bool (n.1 == (3 : Int))] [] [])) := by kernel_rfl
theorem vcCn8B (k : Nat) (n : Int) (l : List Nd) (m i : Int) (K : Ex → List AV → List Blk → Prop) : (bodyA (cxCn8 k) (LL Tryz.f109 [lsCn8 k]) Tryz.f109.ntmps (loopAt Tryz.f109 0).1 (loopAt Tryz.f109 0).2 (lsCn8 k).keep (lsCn8 k).left K [.int .i64 n, .row .node l, .int .i64 m, .int .i64 i] []) = (
Br (decide (i < m))
 (Rq ((0 : Int) ≤ i ∧ i < (↑l.length : Int))
 (Rq (szNds (rd Ty.node l i).6 < k ∧ cntNds (rd Ty.node l i).6 < (1000000 : Nat))
 (K Ex.norm
 [AV.int IntKind.i64
 (IntKind.i64.wrap (IntKind.i64.wrap (n + (1 : Int)) + (↑(cntNds (rd Ty.node l i).6) : Int))),
 AV.row Ty.node l, AV.int IntKind.i64 m, AV.int IntKind.i64 (IntKind.i64.wrap (i + (1 : Int)))]
 [])))
 (K (Ex.exit (0 : Nat)) [AV.int IntKind.i64 n] [])) := by kernel_rfl
theorem vcCn8F (k : Nat) (l : List Nd) (Q : List AV → List Blk → List Blk → Prop) : (funA (cxCn8 k) (LL Tryz.f109 [lsCn8 k]) Tryz.f109 [.row .node l] [] [] Q) = (
Gv (l.length ≤ maxSl)
 (Rq
 ((0 : Int) = (0 : Int) ∧
 (↑l.length : Int) = (↑l.length : Int) ∧
 (0 : Int) = (0 : Int) ∧ szNds l < k + (1 : Nat) ∧ cntNds l < (1000000 : Nat))
 (Q [AV.int IntKind.i64 (↑(cntNds l) : Int)] [] []))) := by kernel_rfl
theorem vcDp8B (k : Nat) (n : Int) (l : List Nd) (m i : Int) (K : Ex → List AV → List Blk → Prop) : (bodyA (cxDp8 k) (LL Tryz.f110 [lsDp8 k]) Tryz.f110.ntmps (loopAt Tryz.f110 0).1 (loopAt Tryz.f110 0).2 (lsDp8 k).keep (lsDp8 k).left K [.int .i64 n, .row .node l, .int .i64 m, .int .i64 i] []) = (
Br (decide (i < m))
 (Rq ((0 : Int) ≤ i ∧ i < (↑l.length : Int))
 (Rq (szNds (rd Ty.node l i).6 < k ∧ cntNds (rd Ty.node l i).6 < (1000000 : Nat))
 (Br (decide (dpRs (rd Ty.node l i).6 > (0 : Int)))
 (Br (decide (IntKind.i64.wrap (dpRs (rd Ty.node l i).6 + (1 : Int)) > n))
 (K Ex.norm
 [AV.int IntKind.i64 (IntKind.i64.wrap (dpRs (rd Ty.node l i).6 + (1 : Int))), AV.row Ty.node l,
 AV.int IntKind.i64 m, AV.int IntKind.i64 (IntKind.i64.wrap (i + (1 : Int)))]
 [])
 (K Ex.norm
 [AV.int IntKind.i64 n, AV.row Ty.node l, AV.int IntKind.i64 m,
 AV.int IntKind.i64 (IntKind.i64.wrap (i + (1 : Int)))]
 []))
 (Br
 (!leafB
 (Nd.mk (rd Ty.node l i).1 (rd Ty.node l i).2 (rd Ty.node l i).3 (rd Ty.node l i).4 (rd Ty.node l i).5
 (rd Ty.node l i).6))
 (Br (decide (IntKind.i64.wrap (dpRs (rd Ty.node l i).6 + (1 : Int)) > n))
 (K Ex.norm
 [AV.int IntKind.i64 (IntKind.i64.wrap (dpRs (rd Ty.node l i).6 + (1 : Int))), AV.row Ty.node l,
 AV.int IntKind.i64 m, AV.int IntKind.i64 (IntKind.i64.wrap (i + (1 : Int)))]
 [])
 (K Ex.norm
 [AV.int IntKind.i64 n, AV.row Ty.node l, AV.int IntKind.i64 m,
 AV.int IntKind.i64 (IntKind.i64.wrap (i + (1 : Int)))]
 []))
 (Br (decide (dpRs (rd Ty.node l i).6 > n))
 (K Ex.norm
 [AV.int IntKind.i64 (dpRs (rd Ty.node l i).6), AV.row Ty.node l, AV.int IntKind.i64 m,
 AV.int IntKind.i64 (IntKind.i64.wrap (i + (1 : Int)))]
 [])
 (K Ex.norm
 [AV.int IntKind.i64 n, AV.row Ty.node l, AV.int IntKind.i64 m,
 AV.int IntKind.i64 (IntKind.i64.wrap (i + (1 : Int)))]
 []))))))
 (K (Ex.exit (0 : Nat)) [AV.int IntKind.i64 n] [])) := by kernel_rfl
theorem vcDp8F (k : Nat) (l : List Nd) (Q : List AV → List Blk → List Blk → Prop) : (funA (cxDp8 k) (LL Tryz.f110 [lsDp8 k]) Tryz.f110 [.row .node l] [] [] Q) = (
Gv (l.length ≤ maxSl)
 (Rq
 ((0 : Int) = (0 : Int) ∧
 (↑l.length : Int) = (↑l.length : Int) ∧
 (0 : Int) = (0 : Int) ∧ szNds l < k + (1 : Nat) ∧ cntNds l < (1000000 : Nat))
 (Q [AV.int IntKind.i64 (dpRs l)] [] []))) := by kernel_rfl
theorem vcRi8B (k : Nat) (l : List Nd) (m i : Int) (K : Ex → List AV → List Blk → Prop) : (bodyA (cxRi8 k) (LL Tryz.f111 [lsRi8 k]) Tryz.f111.ntmps (loopAt Tryz.f111 0).1 (loopAt Tryz.f111 0).2 (lsRi8 k).keep (lsRi8 k).left K [.row .node l, .row .node l, .int .i64 m, .int .i64 i] []) = (
Br (decide (i < m))
 (Rq ((0 : Int) ≤ i ∧ i < (↑l.length : Int))
 (Br ((rd Ty.node l i).1 == (2 : Int))
 (Br (decide (i > (0 : Int)))
 (Rq ((0 : Int) ≤ IntKind.i64.wrap (i - (1 : Int)) ∧ IntKind.i64.wrap (i - (1 : Int)) < (↑l.length : Int))
 (Br ((rd Ty.node l (IntKind.i64.wrap (i - (1 : Int)))).1 == (2 : Int)) (K Ex.ret [AV.bool false] [])
 (Br
 (leafB
 (Nd.mk (rd Ty.node l i).1 (rd Ty.node l i).2 (rd Ty.node l i).3 (rd Ty.node l i).4 (rd Ty.node l i).5
 (rd Ty.node l i).6))
 (Br ((rd Ty.node l i).2 != (0 : Int)) (K Ex.ret [AV.bool false] [])
 (Br (!eqS (rd Ty.node l i).3 (ByteArray.mk (Array.mk []))) (K Ex.ret [AV.bool false] [])
 (Br (decide ((↑(rd Ty.node l i).4.length : Int) > (0 : Int)))
 (Gv ((rd Ty.node l i).4.length ≤ maxSl) (K Ex.ret [AV.bool false] []))
 (Br (decide ((↑(rd Ty.node l i).6.length : Int) > (0 : Int)))
 (Gv ((rd Ty.node l i).4.length ≤ maxSl)
 (Gv ((rd Ty.node l i).6.length ≤ maxSl) (K Ex.ret [AV.bool false] [])))
 (Rq ((rd Ty.node l i).5.size ≤ (1000000 : Nat))
 (Br (!goodB (rd Ty.node l i).5)
 (Gv ((rd Ty.node l i).4.length ≤ maxSl)
 (Gv ((rd Ty.node l i).6.length ≤ maxSl) (K Ex.ret [AV.bool false] [])))
 (Br ((rd Ty.node l i).1 == (2 : Int))
 (Gv ((rd Ty.node l i).4.length ≤ maxSl)
 (Gv ((rd Ty.node l i).6.length ≤ maxSl)
 (Br (eqS (rd Ty.node l i).5 (ByteArray.mk (Array.mk []))) (K Ex.ret [AV.bool false] [])
 (K Ex.norm
 [AV.row Ty.node l, AV.row Ty.node l, AV.int IntKind.i64 m,
 AV.int IntKind.i64 (IntKind.i64.wrap (i + (1 : Int)))]
 []))))
 (Gv ((rd Ty.node l i).4.length ≤ maxSl)
 (Gv ((rd Ty.node l i).6.length ≤ maxSl)
 (K Ex.norm
 [AV.row Ty.node l, AV.row Ty.node l, AV.int IntKind.i64 m,
 AV.int IntKind.i64 (IntKind.i64.wrap (i + (1 : Int)))]
 []))))))))))
 (Br ((rd Ty.node l i).1 != (1 : Int)) (K Ex.ret [AV.bool false] [])
 (Br (decide ((rd Ty.node l i).2 < (0 : Int))) (K Ex.ret [AV.bool false] [])
 (Br (decide ((rd Ty.node l i).2 > (2 : Int))) (K Ex.ret [AV.bool false] [])
 (Br (!eqS (rd Ty.node l i).5 (ByteArray.mk (Array.mk []))) (K Ex.ret [AV.bool false] [])
 (Rq (oBnd (rd Ty.node l i).4)
 (Br (wrongE (rd Ty.node l i).3 (rd Ty.node l i).4 != (0 : Int)) (K Ex.ret [AV.bool false] [])
 (Rq (szNds (rd Ty.node l i).6 < k ∧ bndNds (rd Ty.node l i).6)
 (Br (!riRs (rd Ty.node l i).6 false) (K Ex.ret [AV.bool false] [])
 (K Ex.norm
 [AV.row Ty.node l, AV.row Ty.node l, AV.int IntKind.i64 m,
 AV.int IntKind.i64 (IntKind.i64.wrap (i + (1 : Int)))]
 []))))))))))))
 (Br
 (leafB
 (Nd.mk (rd Ty.node l i).1 (rd Ty.node l i).2 (rd Ty.node l i).3 (rd Ty.node l i).4 (rd Ty.node l i).5
 (rd Ty.node l i).6))
 (Br ((rd Ty.node l i).2 != (0 : Int)) (K Ex.ret [AV.bool false] [])
 (Br (!eqS (rd Ty.node l i).3 (ByteArray.mk (Array.mk []))) (K Ex.ret [AV.bool false] [])
 (Br (decide ((↑(rd Ty.node l i).4.length : Int) > (0 : Int)))
 (Gv ((rd Ty.node l i).4.length ≤ maxSl) (K Ex.ret [AV.bool false] []))
 (Br (decide ((↑(rd Ty.node l i).6.length : Int) > (0 : Int)))
 (Gv ((rd Ty.node l i).4.length ≤ maxSl)
 (Gv ((rd Ty.node l i).6.length ≤ maxSl) (K Ex.ret [AV.bool false] [])))
 (Rq ((rd Ty.node l i).5.size ≤ (1000000 : Nat))
 (Br (!goodB (rd Ty.node l i).5)
 (Gv ((rd Ty.node l i).4.length ≤ maxSl)
 (Gv ((rd Ty.node l i).6.length ≤ maxSl) (K Ex.ret [AV.bool false] [])))
 (Br ((rd Ty.node l i).1 == (2 : Int))
 (Gv ((rd Ty.node l i).4.length ≤ maxSl)
 (Gv ((rd Ty.node l i).6.length ≤ maxSl)
 (Br (eqS (rd Ty.node l i).5 (ByteArray.mk (Array.mk []))) (K Ex.ret [AV.bool false] [])
 (K Ex.norm
 [AV.row Ty.node l, AV.row Ty.node l, AV.int IntKind.i64 m,
 AV.int IntKind.i64 (IntKind.i64.wrap (i + (1 : Int)))]
 []))))
 (Gv ((rd Ty.node l i).4.length ≤ maxSl)
 (Gv ((rd Ty.node l i).6.length ≤ maxSl)
 (K Ex.norm
 [AV.row Ty.node l, AV.row Ty.node l, AV.int IntKind.i64 m,
 AV.int IntKind.i64 (IntKind.i64.wrap (i + (1 : Int)))]
 []))))))))))
 (Br ((rd Ty.node l i).1 != (1 : Int)) (K Ex.ret [AV.bool false] [])
 (Br (decide ((rd Ty.node l i).2 < (0 : Int))) (K Ex.ret [AV.bool false] [])
 (Br (decide ((rd Ty.node l i).2 > (2 : Int))) (K Ex.ret [AV.bool false] [])
 (Br (!eqS (rd Ty.node l i).5 (ByteArray.mk (Array.mk []))) (K Ex.ret [AV.bool false] [])
 (Rq (oBnd (rd Ty.node l i).4)
 (Br (wrongE (rd Ty.node l i).3 (rd Ty.node l i).4 != (0 : Int)) (K Ex.ret [AV.bool false] [])
 (Rq (szNds (rd Ty.node l i).6 < k ∧ bndNds (rd Ty.node l i).6)
 (Br (!riRs (rd Ty.node l i).6 false) (K Ex.ret [AV.bool false] [])
 (K Ex.norm
 [AV.row Ty.node l, AV.row Ty.node l, AV.int IntKind.i64 m,
 AV.int IntKind.i64 (IntKind.i64.wrap (i + (1 : Int)))]
 [])))))))))))
 (Br
 (leafB
 (Nd.mk (rd Ty.node l i).1 (rd Ty.node l i).2 (rd Ty.node l i).3 (rd Ty.node l i).4 (rd Ty.node l i).5
 (rd Ty.node l i).6))
 (Br ((rd Ty.node l i).2 != (0 : Int)) (K Ex.ret [AV.bool false] [])
 (Br (!eqS (rd Ty.node l i).3 (ByteArray.mk (Array.mk []))) (K Ex.ret [AV.bool false] [])
 (Br (decide ((↑(rd Ty.node l i).4.length : Int) > (0 : Int)))
 (Gv ((rd Ty.node l i).4.length ≤ maxSl) (K Ex.ret [AV.bool false] []))
 (Br (decide ((↑(rd Ty.node l i).6.length : Int) > (0 : Int)))
 (Gv ((rd Ty.node l i).4.length ≤ maxSl)
 (Gv ((rd Ty.node l i).6.length ≤ maxSl) (K Ex.ret [AV.bool false] [])))
 (Rq ((rd Ty.node l i).5.size ≤ (1000000 : Nat))
 (Br (!goodB (rd Ty.node l i).5)
 (Gv ((rd Ty.node l i).4.length ≤ maxSl)
 (Gv ((rd Ty.node l i).6.length ≤ maxSl) (K Ex.ret [AV.bool false] [])))
 (Br ((rd Ty.node l i).1 == (2 : Int))
 (Gv ((rd Ty.node l i).4.length ≤ maxSl)
 (Gv ((rd Ty.node l i).6.length ≤ maxSl)
 (Br (eqS (rd Ty.node l i).5 (ByteArray.mk (Array.mk []))) (K Ex.ret [AV.bool false] [])
 (K Ex.norm
 [AV.row Ty.node l, AV.row Ty.node l, AV.int IntKind.i64 m,
 AV.int IntKind.i64 (IntKind.i64.wrap (i + (1 : Int)))]
 []))))
 (Gv ((rd Ty.node l i).4.length ≤ maxSl)
 (Gv ((rd Ty.node l i).6.length ≤ maxSl)
 (K Ex.norm
 [AV.row Ty.node l, AV.row Ty.node l, AV.int IntKind.i64 m,
 AV.int IntKind.i64 (IntKind.i64.wrap (i + (1 : Int)))]
 []))))))))))
 (Br ((rd Ty.node l i).1 != (1 : Int)) (K Ex.ret [AV.bool false] [])
 (Br (decide ((rd Ty.node l i).2 < (0 : Int))) (K Ex.ret [AV.bool false] [])
 (Br (decide ((rd Ty.node l i).2 > (2 : Int))) (K Ex.ret [AV.bool false] [])
 (Br (!eqS (rd Ty.node l i).5 (ByteArray.mk (Array.mk []))) (K Ex.ret [AV.bool false] [])
 (Rq (oBnd (rd Ty.node l i).4)
 (Br (wrongE (rd Ty.node l i).3 (rd Ty.node l i).4 != (0 : Int)) (K Ex.ret [AV.bool false] [])
 (Rq (szNds (rd Ty.node l i).6 < k ∧ bndNds (rd Ty.node l i).6)
 (Br (!riRs (rd Ty.node l i).6 false) (K Ex.ret [AV.bool false] [])
 (K Ex.norm
 [AV.row Ty.node l, AV.row Ty.node l, AV.int IntKind.i64 m,
 AV.int IntKind.i64 (IntKind.i64.wrap (i + (1 : Int)))]
 []))))))))))))
 (K (Ex.exit (0 : Nat)) [AV.any] [])) := by kernel_rfl
theorem vcRi8F (k : Nat) (l : List Nd) (Q : List AV → List Blk → List Blk → Prop) : (funA (cxRi8 k) (LL Tryz.f111 [lsRi8 k]) Tryz.f111 [.row .node l] [] [] Q) = (
Gv (l.length ≤ maxSl)
 (Rq
 (l = l ∧
 (↑l.length : Int) = (↑l.length : Int) ∧
 (0 : Int) = (0 : Int) ∧ szNds l < k + (1 : Nat) ∧ l.length ≤ maxSl ∧ bndNds l)
 (Br (riRs l false) (Q [AV.bool true] [] []) (Q [AV.bool false] [] [])))) := by kernel_rfl
theorem vcCk8F (l : List Nd) (Q : List AV → List Blk → List Blk → Prop) : (funA cxCk8 (LL Tryz.f91 []) Tryz.f91 [.row .node l] [] [] Q) = (
Rq (cntNds l < (1000000 : Nat))
 (Br (decide ((↑(cntNds l) : Int) > (300 : Int))) (Q [AV.int IntKind.i64 (2 : Int)] [] [])
 (Rq (cntNds l < (1000000 : Nat))
 (Br (decide (dpRs l > (40 : Int))) (Q [AV.int IntKind.i64 (2 : Int)] [] [])
 (Rq (bndNds l)
 (Br (!riRs l false) (Q [AV.int IntKind.i64 (4 : Int)] [] []) (Q [AV.int IntKind.i64 (0 : Int)] [] []))))))) := by kernel_rfl
end Go.Proofs.YtnhipiedjekkpaaGreatDoor.AX
end
section
namespace Go.Proofs.YtnhipiedjekkpaaGreatDoor.AXP
open Go Go.Proofs.YtnhipiedjekkpaaGreatDoor.AX
mutual
theorem dp_cnt : ∀ n : Nd, dpR n ≤ cntNd n
  | ⟨k, s, m, a, t, c⟩ => by
    have := dps_cnt c
    rw [dpR, cntNd]
    split <;> omega
theorem dps_cnt : ∀ l : List Nd, dpRs l ≤ cntNds l
  | [] => by rw [dpRs, cntNds]; exact Int.le_refl _
  | n :: l => by
    have := dp_cnt n
    have := dps_cnt l
    rw [dpRs, cntNds]
    split <;> omega
end
theorem bnd_mem : ∀ {l : List Nd} {n : Nd}, bndNds l → n ∈ l → bndNd n
  | m :: l, n, h, hm => by
    rw [bndNds] at h
    cases hm with
    | head => exact h.1
    | tail _ hm => exact bnd_mem h.2 hm
theorem bndNd_eq (n : Nd) : bndNd n = (ndFit n.name n.text n.attrs ∧ bndNds n.kids) := by cases n; rw [bndNd]
def prevT (l : List Nd) (i : Nat) : Bool := decide ((i : Int) > 0) && ((rd Ty.node l ((i : Int) - 1)).1 == 2)
theorem riR_def (n : Nd) (p : Bool) : riR n p = if ((n.1 == 2) && p) = true then false else if leafB n = true then n.2 == 0 && eqS n.3 ⟨#[]⟩ && !decide ((n.4.length : Int) > 0) && !decide ((n.6.length : Int) > 0) && goodB n.5 && !((n.1 == 2) && eqS n.5 ⟨#[]⟩)
      else n.1 == 1 && !decide (n.2 < 0) && !decide (n.2 > 2) && eqS n.5 ⟨#[]⟩ && wrongE n.3 n.4 == 0 && riRs n.6 false := by
  have hL : ∀ {α : Type} (l : List α), (l.length == 0) = !decide ((l.length : Int) > 0) := fun l => by
    cases l with
    | nil => rfl
    | cons x l =>
      rw [decide_eq_true (show ((x :: l).length : Int) > 0 by rw [List.length_cons]; omega)]; rfl
  have h1 : ∀ s : Int, decide (0 ≤ s) = !decide (s < 0) := fun s => by rw [← decide_not]; congr 1; apply propext; omega
  have h2 : ∀ s : Int, decide (s ≤ 2) = !decide (s > 2) := fun s => by rw [← decide_not]; congr 1; apply propext; omega
  obtain ⟨k, s, m, a, t, c⟩ := n
  rw [riR, hL, hL, h1, h2]; rfl
end Go.Proofs.YtnhipiedjekkpaaGreatDoor.AXP
namespace Go.Proofs.YtnhipiedjekkpaaGreatDoor.AX
open Go AXP
set_option maxRecDepth 100000
theorem sz_memT {l : List Nd} {n : Nd} (h : n ∈ l) : szNds n.kids < szNds l := by
  obtain ⟨i, hi, rfl⟩ := List.getElem_of_mem h
  exact szNds_kids hi
theorem lf8_holds : Holds 107 conLeaf := conP_holds fun n => by
  refine fun_meets0 tok0 [] (by kernel_rfl) (by kernel_rfl) fun _ => Eq.mpr (vcLf8F n _) ?_
  have e : ∀ b, leafB n = b → [AV.bool b] = compsOf (.bool (leafB n)) := fun b h => by rw [h]; rfl
  refine ⟨fun h => qfin rfl (e _ ?_) rfl rfl, fun h => qfin rfl (e _ ?_) rfl rfl⟩
  · show (n.1 == 2 || n.1 == 3) = true
    rw [h]; rfl
  · show (n.1 == 2 || n.1 == 3) = (n.1 == 3)
    rw [h]; rfl
theorem cn8_sum (k : Nat) : SumOK (cxCn8 k) (LL Tryz.f109 [lsCn8 k]) Tryz.f109.ntmps (loopAt Tryz.f109 0).1 (loopAt Tryz.f109 0).2 (lsCn8 k) := by
  intro vs bs K hs
  unfold lsCn8 at hs
  simp only at hs
  split at hs
  case h_2 => exact hs.elim
  rename_i n l m i
  rcases (show ∃ w : List Nd, w = l from ⟨_, rfl⟩) with ⟨l, rfl⟩
  obtain ⟨⟨rfl, rfl, rfl, hk, hc⟩, h⟩ := hs
  have hlen := cnt_len l
  have hm : l.length ≤ maxSl := by unfold maxSl; omega
  refine sum_rec (σ := Nat × Nat) (fun s => [.int .i64 (s.2 : Nat), .row .node l, .int .i64 l.length, .int .i64 (s.1 : Nat)]) (fun _ => []) (fun s => s.1 ≤ l.length ∧ s.2 + cntNds (l.drop s.1) = cntNds l) (fun s => l.length - s.1) ?_ (0, 0) ⟨Nat.zero_le _, by simp⟩
  rintro ⟨i, n⟩ ⟨hi, he⟩ R hR
  dsimp only at hi he hR ⊢
  refine Eq.mpr (vcCn8B k n l l.length i _) ⟨fun h1 => ?_, fun h1 => ?_⟩
  · have hlt : i < l.length := by have := of_decide_eq_true h1; omega
    rw [rd_nd hlt, wrap_succ hlt hm]
    rw [List.drop_eq_getElem_cons hlt, cntNds, cntNd_eq] at he
    have ew : IntKind.i64.wrap (IntKind.i64.wrap ((n : Int) + 1) + (cntNds l[i].kids : Int)) = ((n + 1 + cntNds l[i].kids : Nat) : Int) := by
      rw [wrap_id' (i := (n : Int) + 1) (by omega) (by omega), wrap_id' (by omega) (by omega)]; omega
    have hz := sz_memT (List.getElem_mem hlt)
    refine Rq.mk ⟨by omega, by omega⟩ (Rq.mk ⟨by show szNds l[i].kids < k; omega, by show cntNds l[i].kids < 1000000; omega⟩ ?_)
    have := hR (i + 1, n + 1 + cntNds l[i].kids) ⟨hlt, by dsimp only; omega⟩ (by dsimp only; omega)
    dsimp only at this
    rw [← ew] at this
    exact this
  · have hge : l.length ≤ i := by have := of_decide_eq_false h1; omega
    rw [List.drop_of_length_le hge, cntNds, Nat.add_zero] at he
    rw [he]
    exact h
theorem cn8_lt : ∀ k, Holds 109 (conCn8Lt k)
  | 0 => conP_holds fun l => by
    intro F I w vals _ _ hpre
    exact absurd (hpre _ rfl).1 (Nat.not_lt_zero _)
  | k + 1 => conP_holds fun l => by
    rcases (show ∃ w : List Nd, w = l from ⟨_, rfl⟩) with ⟨l, rfl⟩
    refine fun_meets1 (AllH.tok (.cons (cn8_lt k) (by kernel_rfl) .nil)) [] (lsCn8 k) (by kernel_rfl) (by kernel_rfl) (cn8_sum k) fun hpre => Eq.mpr (vcCn8F k l _) ?_
    obtain ⟨h1, h2⟩ : szNds l < k + 1 ∧ cntNds l < 1000000 := hpre _ rfl
    exact ⟨fun _ => Rq.mk ⟨rfl, rfl, rfl, h1, h2⟩ (qfin rfl rfl rfl rfl)⟩
theorem cn8_holds : Holds 109 conCn8 := conP_holds fun l => by
  rcases (show ∃ w : List Nd, w = l from ⟨_, rfl⟩) with ⟨l, rfl⟩
  intro F I w vals hH hv hpre
  exact cn8_lt (szNds l + 1) [.row .node l] [] { pre := some (szNds l < szNds l + 1 ∧ cntNds l < 1000000), res := .int .i64 (cntNds l) } rfl F I w vals hH hv (fun p hp => by injection hp with hp; subst hp; exact ⟨Nat.lt_succ_self _, hpre _ rfl⟩)
theorem dp8_sum (k : Nat) : SumOK (cxDp8 k) (LL Tryz.f110 [lsDp8 k]) Tryz.f110.ntmps (loopAt Tryz.f110 0).1 (loopAt Tryz.f110 0).2 (lsDp8 k) := by
  intro vs bs K hs
  unfold lsDp8 at hs
  simp only at hs
  split at hs
  case h_2 => exact hs.elim
  rename_i n l m i
  rcases (show ∃ w : List Nd, w = l from ⟨_, rfl⟩) with ⟨l, rfl⟩
  obtain ⟨⟨rfl, rfl, rfl, hk, hc⟩, h⟩ := hs
  have hlen := cnt_len l
  have hm : l.length ≤ maxSl := by unfold maxSl; omega
  have hnn := dpRs_nn l
  refine sum_rec (σ := Nat × Int) (fun s => [.int .i64 s.2, .row .node l, .int .i64 l.length, .int .i64 (s.1 : Nat)]) (fun _ => []) (fun s => s.1 ≤ l.length ∧ (if dpRs (l.drop s.1) > s.2 then dpRs (l.drop s.1) else s.2) = dpRs l ∧ 0 ≤ s.2) (fun s => l.length - s.1) ?_ (0, 0) ⟨Nat.zero_le _, by dsimp only; rw [List.drop_zero]; split <;> omega, Int.le_refl _⟩
  rintro ⟨i, n⟩ ⟨hi, he, hn0⟩ R hR
  dsimp only at hi he hn0 hR ⊢
  refine Eq.mpr (vcDp8B k n l l.length i _) ⟨fun h1 => ?_, fun h1 => ?_⟩
  · have hlt : i < l.length := by have := of_decide_eq_true h1; omega
    rw [rd_nd hlt, wrap_succ hlt hm]
    simp only [nd_eta]
    rw [List.drop_eq_getElem_cons hlt, dpRs, dpR_eq] at he
    have hz := sz_memT (List.getElem_mem hlt)
    have h2 := cnt_mem hlt
    rw [cntNd_eq] at h2
    have h3 := dps_cnt l[i].kids
    have h4 := dpRs_nn l[i].kids
    have ew : IntKind.i64.wrap (dpRs l[i].6 + 1) = dpRs l[i].kids + 1 := by show IntKind.i64.wrap (dpRs l[i].kids + 1) = _; rw [wrap_id'] <;> omega
    rw [ew]
    have hgo := fun v => hR (i + 1, v)
    dsimp only at hgo
    refine Rq.mk ⟨by omega, by omega⟩ (Rq.mk ⟨by show szNds l[i].kids < k; omega, by show cntNds l[i].kids < 1000000; omega⟩ ?_)
    have h4 : 0 ≤ dpRs l[i].kids := h4
    refine ⟨fun g1 => ⟨fun g2 => hgo _ ⟨hlt, ?_, by omega⟩ (by omega), fun g2 => hgo _ ⟨hlt, ?_, by omega⟩ (by omega)⟩, fun g1 => ⟨fun g2 => ⟨fun g3 => hgo _ ⟨hlt, ?_, by omega⟩ (by omega), fun g3 => hgo _ ⟨hlt, ?_, by omega⟩ (by omega)⟩, fun g2 => ⟨fun g3 => hgo _ ⟨hlt, ?_, by omega⟩ (by omega), fun g3 => hgo _ ⟨hlt, ?_, by omega⟩ (by omega)⟩⟩⟩
    · have g2 : dpRs l[i].kids + 1 > n := of_decide_eq_true g2
      have e : (if (decide (dpRs l[i].kids > 0) || !leafB l[i]) = true then dpRs l[i].kids + 1 else dpRs l[i].kids) = dpRs l[i].kids + 1 := if_pos (by rw [g1]; rfl)
      rw [e] at he
      repeat' split at he
      all_goals split <;> omega
    · have g2 : ¬ dpRs l[i].kids + 1 > n := of_decide_eq_false g2
      have e : (if (decide (dpRs l[i].kids > 0) || !leafB l[i]) = true then dpRs l[i].kids + 1 else dpRs l[i].kids) = dpRs l[i].kids + 1 := if_pos (by rw [g1]; rfl)
      rw [e] at he
      repeat' split at he
      all_goals split <;> omega
    · have g3 : dpRs l[i].kids + 1 > n := of_decide_eq_true g3
      have e : (if (decide (dpRs l[i].kids > 0) || !leafB l[i]) = true then dpRs l[i].kids + 1 else dpRs l[i].kids) = dpRs l[i].kids + 1 := if_pos (by rw [g2, Bool.or_true])
      rw [e] at he
      repeat' split at he
      all_goals split <;> omega
    · have g3 : ¬ dpRs l[i].kids + 1 > n := of_decide_eq_false g3
      have e : (if (decide (dpRs l[i].kids > 0) || !leafB l[i]) = true then dpRs l[i].kids + 1 else dpRs l[i].kids) = dpRs l[i].kids + 1 := if_pos (by rw [g2, Bool.or_true])
      rw [e] at he
      repeat' split at he
      all_goals split <;> omega
    · have g3 : dpRs l[i].kids > n := of_decide_eq_true g3
      have e : (if (decide (dpRs l[i].kids > 0) || !leafB l[i]) = true then dpRs l[i].kids + 1 else dpRs l[i].kids) = dpRs l[i].kids := if_neg (by rw [g1, g2]; decide)
      rw [e] at he
      repeat' split at he
      all_goals split <;> omega
    · have g3 : ¬ dpRs l[i].kids > n := of_decide_eq_false g3
      have e : (if (decide (dpRs l[i].kids > 0) || !leafB l[i]) = true then dpRs l[i].kids + 1 else dpRs l[i].kids) = dpRs l[i].kids := if_neg (by rw [g1, g2]; decide)
      rw [e] at he
      repeat' split at he
      all_goals split <;> omega
  · have hge : l.length ≤ i := by have := of_decide_eq_false h1; omega
    rw [List.drop_of_length_le hge, dpRs] at he
    have hn : n = dpRs l := by split at he <;> omega
    rw [hn]
    exact h
theorem dp8_lt : ∀ k, Holds 110 (conDp8Lt k)
  | 0 => conP_holds fun l => by
    intro F I w vals _ _ hpre
    exact absurd (hpre _ rfl).1 (Nat.not_lt_zero _)
  | k + 1 => conP_holds fun l => by
    rcases (show ∃ w : List Nd, w = l from ⟨_, rfl⟩) with ⟨l, rfl⟩
    refine fun_meets1 (AllH.tok (.cons (dp8_lt k) (by kernel_rfl) (.cons lf8_holds (by kernel_rfl) .nil))) [] (lsDp8 k) (by kernel_rfl) (by kernel_rfl) (dp8_sum k) fun hpre => Eq.mpr (vcDp8F k l _) ?_
    obtain ⟨h1, h2⟩ : szNds l < k + 1 ∧ cntNds l < 1000000 := hpre _ rfl
    exact ⟨fun _ => Rq.mk ⟨rfl, rfl, rfl, h1, h2⟩ (qfin rfl rfl rfl rfl)⟩
theorem dp8_holds : Holds 110 conDp8 := conP_holds fun l => by
  rcases (show ∃ w : List Nd, w = l from ⟨_, rfl⟩) with ⟨l, rfl⟩
  intro F I w vals hH hv hpre
  exact dp8_lt (szNds l + 1) [.row .node l] [] { pre := some (szNds l < szNds l + 1 ∧ cntNds l < 1000000), res := .int .i64 (dpRs l) } rfl F I w vals hH hv (fun p hp => by injection hp with hp; subst hp; exact ⟨Nat.lt_succ_self _, hpre _ rfl⟩)
theorem ri8_sum (k : Nat) : SumOK (cxRi8 k) (LL Tryz.f111 [lsRi8 k]) Tryz.f111.ntmps (loopAt Tryz.f111 0).1 (loopAt Tryz.f111 0).2 (lsRi8 k) := by
  intro vs bs K hs
  unfold lsRi8 at hs
  simp only at hs
  split at hs
  case h_2 => exact hs.elim
  rename_i l l' m i
  rcases (show ∃ w : List Nd, w = l from ⟨_, rfl⟩) with ⟨l, rfl⟩
  obtain ⟨⟨el, rfl, rfl, hk, hm, hb⟩, h⟩ := hs
  have el : l = l' := el.symm
  subst el
  refine sum_rec (σ := Nat) (fun i => [.row .node l, .row .node l, .int .i64 l.length, .int .i64 (i : Nat)]) (fun _ => []) (fun i => i ≤ l.length ∧ riRs (l.drop i) (prevT l i) = riRs l false) (fun i => l.length - i) ?_ 0 ⟨Nat.zero_le _, rfl⟩
  rintro i ⟨hi, he⟩ R hR
  refine Eq.mpr (vcRi8B k l l.length i _) ⟨fun h1 => ?_, fun h1 => ?_⟩
  · have hlt : i < l.length := by have := of_decide_eq_true h1; omega
    have ew : IntKind.i64.wrap ((i : Int) - 1) = (i : Int) - 1 := by unfold maxSl at hm; rw [wrap_id'] <;> omega
    have hz := sz_memT (List.getElem_mem hlt)
    have hbn := bnd_mem hb (List.getElem_mem hlt)
    rw [bndNd_eq] at hbn
    have hx1 : l[i].5.size ≤ 1000000 := Nat.le_trans hbn.1.2.1 (by decide)
    have hx2 : oBnd l[i].4 := ⟨Nat.le_trans hbn.1.2.2.1 (by decide), fun x hx => Nat.le_trans (hbn.1.2.2.2 x hx).2 (by decide)⟩
    have hx3 : szNds l[i].6 < k ∧ bndNds l[i].6 := ⟨by show szNds l[i].kids < k; omega, hbn.2⟩
    have hidx : decide ((i : Int) > 0) = true → 0 ≤ (i : Int) - 1 ∧ (i : Int) - 1 < (l.length : Int) := fun q => by have := of_decide_eq_true q; omega
    have hcur : (0 : Int) ≤ (i : Int) ∧ (i : Int) < (l.length : Int) := ⟨by omega, by omega⟩
    rw [List.drop_eq_getElem_cons hlt, riRs] at he
    have hp : prevT l (i + 1) = (l[i].kind == 2) := by
      unfold prevT
      rw [decide_eq_true (show ((i + 1 : Nat) : Int) > 0 by omega), Bool.true_and, show ((i + 1 : Nat) : Int) - 1 = (i : Int) by omega, rd_nd hlt]
    rw [ew, rd_nd hlt, wrap_succ hlt hm]
    simp only [nd_eta]
    have ret : riR l[i] (prevT l i) = false → K .ret [.bool false] [] := fun q => by
      rw [q, Bool.false_and] at he
      exact h.no he.symm
    have nxt : riR l[i] (prevT l i) = true → R [.row .node l, .row .node l, .int .i64 l.length, .int .i64 ((i + 1 : Nat) : Int)] [] := fun q => by
      rw [q, Bool.true_and] at he
      exact hR (i + 1) ⟨hlt, by rw [hp]; exact he⟩ (by omega)
    rw [riR_def] at ret nxt
    unfold prevT at ret nxt
    clear he hp hR h hb hbn hz ew
    generalize l[i] = n at ret nxt hx1 hx2 hx3 ⊢
    unfold bne
    generalize (n.1 == 2) = a at ret nxt ⊢
    generalize ((rd Ty.node l ((i : Int) - 1)).1 == 2) = c at ret nxt ⊢
    generalize decide ((i : Int) > 0) = p at ret nxt hidx ⊢
    generalize leafB n = f at ret nxt ⊢
    generalize (n.2 == 0) = s0 at ret nxt ⊢
    generalize eqS n.3 ⟨#[]⟩ = e3 at ret nxt ⊢
    generalize decide ((n.4.length : Int) > 0) = l4 at ret nxt ⊢
    generalize decide ((n.6.length : Int) > 0) = l6 at ret nxt ⊢
    generalize goodB n.5 = g5 at ret nxt ⊢
    generalize eqS n.5 ⟨#[]⟩ = e5 at ret nxt ⊢
    generalize (n.1 == 1) = k1 at ret nxt ⊢
    generalize decide (n.2 < 0) = t0 at ret nxt ⊢
    generalize decide (n.2 > 2) = t2 at ret nxt ⊢
    generalize (wrongE n.3 n.4 == 0) = w at ret nxt ⊢
    generalize riRs n.6 false = rr at ret nxt ⊢
    repeat' (first | refine Rq.mk hcur ?_ | refine Rq.mk (hidx (by assumption)) ?_ | refine Rq.mk hx1 ?_ | refine Rq.mk hx2 ?_ | refine Rq.mk hx3 ?_ | refine Gv.mk (fun _ => ?_) | refine Br.mk (fun _ => ?_) (fun _ => ?_) | fail)
    all_goals first
      | exact ret (by simp_all)
      | exact nxt (by simp_all)
  · have hge : l.length ≤ i := by have := of_decide_eq_false h1; omega
    rw [List.drop_of_length_le hge, riRs] at he
    exact h.yes he.symm
theorem ri8_lt : ∀ k, Holds 111 (conRi8Lt k)
  | 0 => conP_holds fun l => by
    intro F I w vals _ _ hpre
    exact absurd (hpre _ rfl).1 (Nat.not_lt_zero _)
  | k + 1 => conP_holds fun l => by
    rcases (show ∃ w : List Nd, w = l from ⟨_, rfl⟩) with ⟨l, rfl⟩
    refine fun_meets1 (AllH.tok (.cons lf8_holds (by kernel_rfl) (.cons gd6_holds (by kernel_rfl) (.cons wr6_holds (by kernel_rfl) (.cons (ri8_lt k) (by kernel_rfl) .nil))))) [] (lsRi8 k) (by kernel_rfl) (by kernel_rfl) (ri8_sum k) fun hpre => Eq.mpr (vcRi8F k l _) ?_
    obtain ⟨h1, h2⟩ : szNds l < k + 1 ∧ bndNds l := hpre _ rfl
    have e : ∀ b, riRs l false = b → [AV.bool b] = compsOf (.bool (riRs l false)) := fun b h => by rw [h]; rfl
    exact ⟨fun hm => Rq.mk ⟨rfl, rfl, rfl, h1, hm, h2⟩ ⟨fun h => qfin rfl (e _ h) rfl rfl, fun h => qfin rfl (e _ h) rfl rfl⟩⟩
theorem ri8_holds : Holds 111 conRi8 := conP_holds fun l => by
  rcases (show ∃ w : List Nd, w = l from ⟨_, rfl⟩) with ⟨l, rfl⟩
  intro F I w vals hH hv hpre
  exact ri8_lt (szNds l + 1) [.row .node l] [] { pre := some (szNds l < szNds l + 1 ∧ bndNds l), res := .bool (riRs l false) } rfl F I w vals hH hv (fun p hp => by injection hp with hp; subst hp; exact ⟨Nat.lt_succ_self _, hpre _ rfl⟩)
theorem ck8_holds : Holds 91 conCk8 := conP_holds fun l => by
  rcases (show ∃ w : List Nd, w = l from ⟨_, rfl⟩) with ⟨l, rfl⟩
  refine fun_meets0 (AllH.tok (.cons cn8_holds (by kernel_rfl) (.cons dp8_holds (by kernel_rfl) (.cons ri8_holds (by kernel_rfl) .nil)))) [] (by kernel_rfl) (by kernel_rfl) fun hpre => Eq.mpr (vcCk8F l _) ?_
  obtain ⟨h, hb⟩ : fineNds l := hpre _ rfl
  have e : ∀ b, checkS l = b → [AV.int .i64 b] = compsOf (.int .i64 (checkS l)) := fun b h => by rw [h]; rfl
  have hd : checkS l = if (decide ((cntNds l : Int) > 300) || decide (dpRs l > 40)) = true then 2 else if riRs l false = true then 0 else 4 := by
    rw [right_eq]; unfold checkS; rw [depth_eq]
  refine Rq.mk h ⟨fun h1 => qfin rfl (e _ ?_) rfl rfl, fun h1 => Rq.mk h ⟨fun h2 => qfin rfl (e _ ?_) rfl rfl, fun h2 => Rq.mk hb ⟨fun h3 => qfin rfl (e _ ?_) rfl rfl, fun h3 => qfin rfl (e _ ?_) rfl rfl⟩⟩⟩
  · rw [hd, h1]; rfl
  · rw [hd, h2, Bool.or_true]; rfl
  · have h3 : riRs l false = false := by rw [← Bool.not_eq_true']; exact h3
    rw [hd, h1, h2, h3]; rfl
  · have h3 : riRs l false = true := by rw [← Bool.not_eq_false']; exact h3
    rw [hd, h1, h2, h3]; rfl
end Go.Proofs.YtnhipiedjekkpaaGreatDoor.AX
end
section
namespace Go.Proofs.YtnhipiedjekkpaaGreatDoor.AXP
open Go Go.Proofs.YtnhipiedjekkpaaGreatDoor.AX
def plN (n : Int) : ByteArray := bk (numL n.toNat)
end Go.Proofs.YtnhipiedjekkpaaGreatDoor.AXP
namespace Go.Proofs.YtnhipiedjekkpaaGreatDoor.AX
open Go AXP
def lsSz1 : LS where
  keep := [(3, .as), (4, .as)]
  left := [(3, .as)]
  sum := fun vs bs K => match vs, bs with
    | [.int .i64 k, .int .i64 x], [] => Rq (k = 0 ∧ x ≤ 1099511627776) (K (.exit 0) [.int .i64 (b256 x.toNat).length] [])
    | _, _ => False
def conSz1 : Con := conP [.int] fun (n : Int) => { pre := some (n ≤ 1099511627776), res := .int .i64 (b256 n.toNat).length }
noncomputable def cxPl1 : Cx := cxT (tabLook [(56, conSz1)])
def lsPl1 : LS where
  keep := [(0, .as), (3, .as), (4, .as)]
  left := [(0, .as), (3, .as)]
  sum := fun vs bs K => match vs, bs with
    | [.int .i64 n, .str o, .int .i64 x], [] => Rq (x = n ∧ o.size = 0 ∧ x ≤ 1099511627776) (K (.exit 0) [.int .i64 n, .str (bk (b256 x.toNat))] [])
    | _, _ => False
def conPl1 : Con := conP [.int] fun (n : Int) => { pre := some (n ≤ 1099511627776), res := .str (plN n) }
noncomputable def cxTx8 : Cx := cxT (tabLook [(25, conPl1)])
def conTx8 : Con := conP [.str] fun (s : ByteArray) => { pre := some (s.size ≤ 1000000), res := .str (bk (txtL (kb s))) }
noncomputable def conNo8 (k : Nat) : Con := conP [.agg .node] fun (n : Nd) => { pre := some (szNds n.kids < k ∧ bndNd n ∧ (ndL n).length ≤ maxSl ∧ ∃ d, fitN d n), res := .str (bk (ndL n)) }
noncomputable def conPn8 (k : Nat) : Con := conP [.row .node] fun (l : List Nd) => { pre := some (szNds l < k ∧ bndNds l ∧ l.length ≤ 300 ∧ (bytesL l).length ≤ maxSl ∧ ∃ d, ∀ x ∈ l, fitN d x), res := .str (bk (bytesL l)) }
noncomputable def cxNo8 (k : Nat) : Cx := cxT (tabLook [(25, conPl1), (107, conLeaf), (108, conTx8), (58, conPn8 k)])
def lsNo8 : LS where
  keep := [(1, .as), (3, .as), (31, .as), (32, .as), (33, .as)]
  left := [(1, .as), (3, .as)]
  sum := fun vs bs K => match vs, bs with
    | [.ptr 0 0, .str o, .row .attr a, .int .i64 q, .int .i64 i], [.box [.int .i64 c0, .int .i64 c1, .str c2, .row .attr c3, .str c4, .row .node c5]] => Rq (q = a.length ∧ i = 0 ∧ a.length ≤ maxSl ∧ o.size + (attL a).length ≤ maxSl ∧ ∀ x ∈ a, x.name.size ≤ 65536 ∧ x.value.size ≤ 65536) (K (.exit 0) [.ptr 0 0, .str (o ++ bk (attL a))] [.box [.int .i64 c0, .int .i64 c1, .str c2, .row .attr c3, .str c4, .row .node c5]])
    | _, _ => False
noncomputable def cxPn8 (k : Nat) : Cx := cxT (tabLook [(25, conPl1), (89, conNo8 k)])
noncomputable def lsPn8 (k : Nat) : LS where
  keep := [(3, .as), (9, .as), (10, .as), (11, .as)]
  left := [(3, .as)]
  sum := fun vs bs K => match vs, bs with
    | [.str o, .row .node l, .int .i64 m, .int .i64 i], [] => Rq (m = l.length ∧ i = 0 ∧ l.length ≤ maxSl ∧ szNds l < k + 1 ∧ bndNds l ∧ o.size + (ndsL l).length ≤ maxSl ∧ ∃ d, ∀ x ∈ l, fitN d x) (K (.exit 0) [.str (o ++ bk (ndsL l))] [])
    | _, _ => False
noncomputable def conLo8 (k : Nat) : Con := conP [.row .node] fun (l : List Nd) => { pre := some (szNds l < k), res := .bool (lonNds l) }
noncomputable def cxLo8 (k : Nat) : Cx := cxT (tabLook [(57, conLo8 k)])
noncomputable def lsLo8 (k : Nat) : LS where
  keep := [(7, .as), (8, .as), (9, .as)]
  left := [(2, .as)]
  sum := fun vs bs K => match vs, bs with
    | [.row .node l, .int .i64 m, .int .i64 i], [] => Rq (m = l.length ∧ i = 0 ∧ l.length ≤ maxSl ∧ szNds l < k + 1) (Br (lonNds l) (K .ret [.bool true] []) (K (.exit 0) [.any] []))
    | _, _ => False
def lsLoA : LS where
  keep := [(7, .as), (8, .as), (9, .as), (23, .as), (24, .as), (25, .as)]
  left := [(7, .as), (8, .as), (9, .as), (2, .as)]
  sum := fun vs bs K => match vs, bs with
    | [.row .node l, .int .i64 m, .int .i64 j, .row .attr a, .int .i64 q, .int .i64 i], [] => Rq (q = a.length ∧ i = 0 ∧ a.length ≤ maxSl) (Br (a.any bigA) (K .ret [.row .node l, .int .i64 m, .int .i64 j, .bool true] []) (K (.exit 2) [.row .node l, .int .i64 m, .int .i64 j, .any] []))
    | _, _ => False
def conPn8' : Con := conP [.row .node] fun (l : List Nd) => { pre := some (bndNds l ∧ l.length ≤ 300 ∧ (bytesL l).length ≤ maxSl ∧ ∃ d, ∀ x ∈ l, fitN d x), res := .str (bk (bytesL l)) }
def conLo8' : Con := conP [.row .node] fun (l : List Nd) => { res := .bool (lonNds l) }
end Go.Proofs.YtnhipiedjekkpaaGreatDoor.AX
end
section
namespace Go.Proofs.YtnhipiedjekkpaaGreatDoor.AX
open Go AXP
set_option maxRecDepth 100000
theorem vcSz1B (k x : Int) (K : Ex → List AV → List Blk → Prop) : (bodyA cx0 (LL Tryz.f56 [lsSz1]) Tryz.f56.ntmps (loopAt Tryz.f56 0).1 (loopAt Tryz.f56 0).2 lsSz1.keep lsSz1.left K [.int .i64 k, .int .i64 x] []) = (
Br (decide (x > (0 : Int)))
 (Rq ((256 : Int) ≠ (0 : Int))
 (K Ex.norm
 [AV.int IntKind.i64 (IntKind.i64.wrap (k + (1 : Int))),
 AV.int IntKind.i64 (IntKind.i64.wrap (x.tdiv (256 : Int)))]
 []))
 (K (Ex.exit (0 : Nat)) [AV.int IntKind.i64 k] [])) := by kernel_rfl
theorem vcSz1F (n : Int) (Q : List AV → List Blk → List Blk → Prop) : (funA cx0 (LL Tryz.f56 [lsSz1]) Tryz.f56 [.int .i64 n] [] [] Q) = (
Rq ((0 : Int) = (0 : Int) ∧ n ≤ (1099511627776 : Int)) (Q [AV.int IntKind.i64 (↑(b256 n.toNat).length : Int)] [] [])) := by kernel_rfl
theorem vcPl1B (n x : Int) (o : ByteArray) (K : Ex → List AV → List Blk → Prop) : (bodyA cxPl1 (LL Tryz.f25 [lsPl1]) Tryz.f25.ntmps (loopAt Tryz.f25 0).1 (loopAt Tryz.f25 0).2 lsPl1.keep lsPl1.left K [.int .i64 n, .str o, .int .i64 x] []) = (
Br (decide (x > (0 : Int)))
 (Rq ((256 : Int) ≠ (0 : Int))
 (Rq ([IntKind.u8.wrap (x.tmod (256 : Int))].length ≤ maxSl)
 (Rq ((strOf [IntKind.u8.wrap (x.tmod (256 : Int))]).size + o.size ≤ maxSl)
 (Rq ((256 : Int) ≠ (0 : Int))
 (K Ex.norm
 [AV.int IntKind.i64 n, AV.str (strOf [IntKind.u8.wrap (x.tmod (256 : Int))] ++ o),
 AV.int IntKind.i64 (IntKind.i64.wrap (x.tdiv (256 : Int)))]
 [])))))
 (K (Ex.exit (0 : Nat)) [AV.int IntKind.i64 n, AV.str o] [])) := by kernel_rfl
theorem vcPl1F (n : Int) (Q : List AV → List Blk → List Blk → Prop) : (funA cxPl1 (LL Tryz.f25 [lsPl1]) Tryz.f25 [.int .i64 n] [] [] Q) = (
Rq (n = n ∧ (ByteArray.mk (Array.mk [])).size = (0 : Nat) ∧ n ≤ (1099511627776 : Int))
 (Rq (n ≤ (1099511627776 : Int))
 (Rq ([IntKind.u8.wrap (↑(b256 n.toNat).length : Int)].length ≤ maxSl)
 (Rq ((strOf [IntKind.u8.wrap (↑(b256 n.toNat).length : Int)]).size + (bk (b256 n.toNat)).size ≤ maxSl)
 (Q [AV.str (strOf [IntKind.u8.wrap (↑(b256 n.toNat).length : Int)] ++ bk (b256 n.toNat))] [] []))))) := by kernel_rfl
theorem vcTx8F (s : ByteArray) (Q : List AV → List Blk → List Blk → Prop) : (funA cxTx8 (LL Tryz.f108 []) Tryz.f108 [.str s] [] [] Q) = (
Rq ((↑s.size : Int) ≤ (1099511627776 : Int))
 (Rq ((plN (↑s.size : Int)).size + s.size ≤ maxSl) (Gv (s.size ≤ maxSl) (Q [AV.str (plN (↑s.size : Int) ++ s)] [] [])))) := by kernel_rfl
theorem vcNo8B (k : Nat) (n : Nd) (o : ByteArray) (a : List At) (q i : Int) (K : Ex → List AV → List Blk → Prop) : (bodyA (cxNo8 k) (LL Tryz.f89 [lsNo8]) Tryz.f89.ntmps (loopAt Tryz.f89 0).1 (loopAt Tryz.f89 0).2 lsNo8.keep lsNo8.left K [.ptr 0 0, .str o, .row .attr a, .int .i64 q, .int .i64 i] [.box (nodeL n)]) = (
Br (decide (i < q))
 (Rq ((0 : Int) ≤ i ∧ i < (↑a.length : Int))
 (Rq ((rd Ty.attr a i).1.size ≤ (1000000 : Nat))
 (Rq (o.size + (bk (txtL (kb (rd Ty.attr a i).1))).size ≤ maxSl)
 (Rq ((rd Ty.attr a i).2.size ≤ (1000000 : Nat))
 (Rq ((o ++ bk (txtL (kb (rd Ty.attr a i).1))).size + (bk (txtL (kb (rd Ty.attr a i).2))).size ≤ maxSl)
 (K Ex.norm
 [AV.ptr (0 : Nat) (0 : Nat),
 AV.str (o ++ bk (txtL (kb (rd Ty.attr a i).1)) ++ bk (txtL (kb (rd Ty.attr a i).2))), AV.row Ty.attr a,
 AV.int IntKind.i64 q, AV.int IntKind.i64 (IntKind.i64.wrap (i + (1 : Int)))]
 [Blk.box
 [AV.int IntKind.i64 n.1, AV.int IntKind.i64 n.2, AV.str n.3, AV.row Ty.attr n.4, AV.str n.5,
 AV.row Ty.node n.6]]))))))
 (K (Ex.exit (0 : Nat)) [AV.ptr (0 : Nat) (0 : Nat), AV.str o]
 [Blk.box
 [AV.int IntKind.i64 n.1, AV.int IntKind.i64 n.2, AV.str n.3, AV.row Ty.attr n.4, AV.str n.5,
 AV.row Ty.node n.6]])) := by kernel_rfl
theorem vcNo8F (k : Nat) (n : Nd) (Q : List AV → List Blk → List Blk → Prop) : (funA (cxNo8 k) (LL Tryz.f89 [lsNo8]) Tryz.f89 [.agg (nodeL n)] [] [] Q) = (
Rq (n.1 ≤ (1099511627776 : Int))
 (Br (leafB (Nd.mk n.1 n.2 n.3 n.4 n.5 n.6))
 (Rq (n.5.size ≤ (1000000 : Nat))
 (Rq ((plN n.1).size + (bk (txtL (kb n.5))).size ≤ maxSl) (Q [AV.str (plN n.1 ++ bk (txtL (kb n.5)))] [] [])))
 (Rq (n.2 ≤ (1099511627776 : Int))
 (Rq ((plN n.1).size + (plN n.2).size ≤ maxSl)
 (Rq (n.3.size ≤ (1000000 : Nat))
 (Rq ((plN n.1 ++ plN n.2).size + (bk (txtL (kb n.3))).size ≤ maxSl)
 (Rq ((↑n.4.length : Int) ≤ (1099511627776 : Int))
 (Rq ((plN n.1 ++ plN n.2 ++ bk (txtL (kb n.3))).size + (plN (↑n.4.length : Int)).size ≤ maxSl)
 (Gv (n.4.length ≤ maxSl)
 (Gv (n.4.length ≤ maxSl)
 (Rq
 ((↑n.4.length : Int) = (↑n.4.length : Int) ∧
 (0 : Int) = (0 : Int) ∧
 n.4.length ≤ maxSl ∧
 (plN n.1 ++ plN n.2 ++ bk (txtL (kb n.3)) ++ plN (↑n.4.length : Int)).size +
 (attL n.4).length ≤
 maxSl ∧
 ∀ (x : den Ty.attr),
 x ∈ n.attrs → x.name.size ≤ (65536 : Nat) ∧ x.value.size ≤ (65536 : Nat))
 (Rq
 (szNds n.6 < k ∧
 bndNds n.6 ∧
 n.6.length ≤ (300 : Nat) ∧
 (bytesL n.6).length ≤ maxSl ∧ ∃ d, ∀ (x : Nd), x ∈ n.kids → fitN d x)
 (Rq
 ((plN n.1 ++ plN n.2 ++ bk (txtL (kb n.3)) ++ plN (↑n.4.length : Int) ++ bk (attL n.4)).size +
 (bk (bytesL n.6)).size ≤
 maxSl)
 (Q
 [AV.str
 (plN n.1 ++ plN n.2 ++ bk (txtL (kb n.3)) ++ plN (↑n.4.length : Int) ++ bk (attL n.4) ++
 bk (bytesL n.6))]
 [] [])))))))))))))) := by kernel_rfl
theorem vcPn8B (k : Nat) (o : ByteArray) (l : List Nd) (m i : Int) (K : Ex → List AV → List Blk → Prop) : (bodyA (cxPn8 k) (LL Tryz.f58 [lsPn8 k]) Tryz.f58.ntmps (loopAt Tryz.f58 0).1 (loopAt Tryz.f58 0).2 (lsPn8 k).keep (lsPn8 k).left K [.str o, .row .node l, .int .i64 m, .int .i64 i] []) = (
Br (decide (i < m))
 (Rq ((0 : Int) ≤ i ∧ i < (↑l.length : Int))
 (Rq
 (szNds (rd Ty.node l i).6 < k ∧
 bndNd
 (Nd.mk (rd Ty.node l i).1 (rd Ty.node l i).2 (rd Ty.node l i).3 (rd Ty.node l i).4 (rd Ty.node l i).5
 (rd Ty.node l i).6) ∧
 (ndL
 (Nd.mk (rd Ty.node l i).1 (rd Ty.node l i).2 (rd Ty.node l i).3 (rd Ty.node l i).4 (rd Ty.node l i).5
 (rd Ty.node l i).6)).length ≤
 maxSl ∧
 ∃ d,
 fitN d
 (Nd.mk (rd Ty.node l i).1 (rd Ty.node l i).2 (rd Ty.node l i).3 (rd Ty.node l i).4 (rd Ty.node l i).5
 (rd Ty.node l i).6))
 (Rq
 (o.size +
 (bk
 (ndL
 (Nd.mk (rd Ty.node l i).1 (rd Ty.node l i).2 (rd Ty.node l i).3 (rd Ty.node l i).4 (rd Ty.node l i).5
 (rd Ty.node l i).6))).size ≤
 maxSl)
 (K Ex.norm
 [AV.str
 (o ++
 bk
 (ndL
 (Nd.mk (rd Ty.node l i).1 (rd Ty.node l i).2 (rd Ty.node l i).3 (rd Ty.node l i).4
 (rd Ty.node l i).5 (rd Ty.node l i).6))),
 AV.row Ty.node l, AV.int IntKind.i64 m, AV.int IntKind.i64 (IntKind.i64.wrap (i + (1 : Int)))]
 []))))
 (K (Ex.exit (0 : Nat)) [AV.str o] [])) := by kernel_rfl
theorem vcPn8F (k : Nat) (l : List Nd) (Q : List AV → List Blk → List Blk → Prop) : (funA (cxPn8 k) (LL Tryz.f58 [lsPn8 k]) Tryz.f58 [.row .node l] [] [] Q) = (
Rq ((↑l.length : Int) ≤ (1099511627776 : Int))
 (Gv (l.length ≤ maxSl)
 (Gv (l.length ≤ maxSl)
 (Rq
 ((↑l.length : Int) = (↑l.length : Int) ∧
 (0 : Int) = (0 : Int) ∧
 l.length ≤ maxSl ∧
 szNds l < k + (1 : Nat) ∧
 bndNds l ∧
 (plN (↑l.length : Int)).size + (ndsL l).length ≤ maxSl ∧ ∃ d, ∀ (x : den Ty.node), x ∈ l → fitN d x)
 (Q [AV.str (plN (↑l.length : Int) ++ bk (ndsL l))] [] []))))) := by kernel_rfl
theorem vcLo8B (k : Nat) (l : List Nd) (m i : Int) (K : Ex → List AV → List Blk → Prop) : (bodyA (cxLo8 k) (LL Tryz.f57 [lsLo8 k, lsLoA]) Tryz.f57.ntmps (loopAt Tryz.f57 0).1 (loopAt Tryz.f57 0).2 (lsLo8 k).keep (lsLo8 k).left K [.row .node l, .int .i64 m, .int .i64 i] []) = (
Br (decide (i < m))
 (Rq ((0 : Int) ≤ i ∧ i < (↑l.length : Int))
 (Br (decide ((↑(rd Ty.node l i).5.size : Int) > (65536 : Int)))
 (Gv ((rd Ty.node l i).5.size ≤ maxSl) (K Ex.ret [AV.bool true] []))
 (Rq (szNds (rd Ty.node l i).6 < k)
 (Gv ((rd Ty.node l i).5.size ≤ maxSl)
 (Br (lonNds (rd Ty.node l i).6) (K Ex.ret [AV.bool true] [])
 (Gv ((rd Ty.node l i).4.length ≤ maxSl)
 (Rq
 ((↑(rd Ty.node l i).4.length : Int) = (↑(rd Ty.node l i).4.length : Int) ∧
 (0 : Int) = (0 : Int) ∧ (rd Ty.node l i).4.length ≤ maxSl)
 (Br ((rd Ty.node l i).4.any bigA) (K Ex.ret [AV.bool true] [])
 (K Ex.norm
 [AV.row Ty.node l, AV.int IntKind.i64 m, AV.int IntKind.i64 (IntKind.i64.wrap (i + (1 : Int)))]
 [])))))))))
 (K (Ex.exit (0 : Nat)) [AV.any] [])) := by kernel_rfl
theorem vcLo8A (k : Nat) (l : List Nd) (a : List At) (m j q i : Int) (K : Ex → List AV → List Blk → Prop) : (bodyA (cxLo8 k) (LL Tryz.f57 [lsLo8 k, lsLoA]) Tryz.f57.ntmps (loopAt Tryz.f57 1).1 (loopAt Tryz.f57 1).2 lsLoA.keep lsLoA.left K [.row .node l, .int .i64 m, .int .i64 j, .row .attr a, .int .i64 q, .int .i64 i] []) = (
Br (decide (i < q))
 (Rq ((0 : Int) ≤ i ∧ i < (↑a.length : Int))
 (Gv ((rd Ty.attr a i).2.size ≤ maxSl)
 (Br (decide ((↑(rd Ty.attr a i).2.size : Int) > (65536 : Int)))
 (K Ex.ret [AV.row Ty.node l, AV.int IntKind.i64 m, AV.int IntKind.i64 j, AV.bool true] [])
 (K Ex.norm
 [AV.row Ty.node l, AV.int IntKind.i64 m, AV.int IntKind.i64 j, AV.row Ty.attr a, AV.int IntKind.i64 q,
 AV.int IntKind.i64 (IntKind.i64.wrap (i + (1 : Int)))]
 []))))
 (K (Ex.exit (2 : Nat)) [AV.row Ty.node l, AV.int IntKind.i64 m, AV.int IntKind.i64 j, AV.any] [])) := by kernel_rfl
theorem vcLo8F (k : Nat) (l : List Nd) (Q : List AV → List Blk → List Blk → Prop) : (funA (cxLo8 k) (LL Tryz.f57 [lsLo8 k, lsLoA]) Tryz.f57 [.row .node l] [] [] Q) = (
Gv (l.length ≤ maxSl)
 (Rq ((↑l.length : Int) = (↑l.length : Int) ∧ (0 : Int) = (0 : Int) ∧ l.length ≤ maxSl ∧ szNds l < k + (1 : Nat))
 (Br (lonNds l) (Q [AV.bool true] [] []) (Q [AV.bool false] [] [])))) := by kernel_rfl
end Go.Proofs.YtnhipiedjekkpaaGreatDoor.AX
end
section
namespace Go.Proofs.YtnhipiedjekkpaaGreatDoor.AXP
open Go Go.Proofs.YtnhipiedjekkpaaGreatDoor.AX
theorem b256_up {x : Int} (h : x > 0) : b256 x.toNat = b256 (x / 256).toNat ++ [UInt8.ofNat (x.toNat % 256)] := by
  rw [b256_eq x.toNat, if_neg (by omega), show (x / 256).toNat = x.toNat / 256 by omega]
theorem b256_no {x : Int} (h : ¬ x > 0) : b256 x.toNat = [] := by
  rw [show x.toNat = 0 by omega]; rfl
theorem plN_eq (n : Nat) : plN (n : Int) = bk (numL n) := by unfold plN; rw [Int.toNat_natCast]
theorem bk_app (a b : List UInt8) : bk a ++ bk b = bk (a ++ b) := kb_inj (by rw [kb_app, kb_bk, kb_bk, kb_bk])
theorem txR_eq (s : ByteArray) : plN s.size ++ s = bk (txtL (kb s)) := by
  apply kb_inj
  rw [kb_app, plN_eq, kb_bk, kb_bk]
  unfold txtL
  rw [kb_size]
theorem attL_cons (a : At) (l : List At) : attL (a :: l) = txtL (kb a.name) ++ txtL (kb a.value) ++ attL l := by rw [attL]
theorem fit_kind {d : Nat} {n : Nd} (h : fitN d n) : (∃ j : Nat, n.kind = j ∧ j ≤ 3) ∧ (leafB n = false → (∃ j : Nat, n.space = j ∧ j ≤ 2)) := by
  rw [fitN_eq] at h
  refine ⟨h.1, fun hl => ?_⟩
  have h2 := h.2
  rw [if_neg (by rw [hl]; decide)] at h2
  exact h2.1
theorem ndsL_cons (n : Nd) (l : List Nd) : ndsL (n :: l) = ndL n ++ ndsL l := by rw [ndsL]
end Go.Proofs.YtnhipiedjekkpaaGreatDoor.AXP
namespace Go.Proofs.YtnhipiedjekkpaaGreatDoor.AX
open Go AXP
set_option maxRecDepth 100000
theorem sz1_sum : SumOK cx0 (LL Tryz.f56 [lsSz1]) Tryz.f56.ntmps (loopAt Tryz.f56 0).1 (loopAt Tryz.f56 0).2 lsSz1 := by
  intro vs bs K hs
  unfold lsSz1 at hs
  simp only at hs
  split at hs
  case h_2 => exact hs.elim
  rename_i k x
  obtain ⟨⟨rfl, hx⟩, h⟩ := hs
  have h6 := b256_le6 (n := x.toNat) (by omega)
  refine sum_rec (σ := Nat × Int) (fun s => [.int .i64 (s.1 : Nat), .int .i64 s.2]) (fun _ => []) (fun s => s.1 + (b256 s.2.toNat).length = (b256 x.toNat).length ∧ s.2 ≤ 1099511627776) (fun s => s.2.toNat) ?_ (0, x) ⟨by simp, hx⟩
  rintro ⟨k, y⟩ ⟨h1, h2⟩ R hR
  dsimp only at h1 h2 hR ⊢
  refine Eq.mpr (vcSz1B k y _) ⟨fun q => ?_, fun q => ?_⟩
  · have q : y > 0 := of_decide_eq_true q
    rw [b256_up q, List.length_append, List.length_cons, List.length_nil] at h1
    have e1 : IntKind.i64.wrap ((k : Int) + 1) = ((k + 1 : Nat) : Int) := by rw [wrap_id'] <;> omega
    have e2 : IntKind.i64.wrap (y.tdiv 256) = y / 256 := by rw [Int.tdiv_eq_ediv_of_nonneg (by omega), wrap_id'] <;> omega
    rw [e1, e2]
    exact Rq.mk (by decide) (hR (k + 1, y / 256) ⟨by dsimp only; omega, by dsimp only; omega⟩ (by dsimp only; omega))
  · have q : ¬ y > 0 := of_decide_eq_false q
    rw [b256_no q, List.length_nil, Nat.add_zero] at h1
    rw [h1]
    exact h
theorem sz1_holds : Holds 56 conSz1 := conP_holds fun n => by
  rcases (show ∃ w : Int, w = n from ⟨_, rfl⟩) with ⟨n, rfl⟩
  refine fun_meets1 tok0 [] lsSz1 (by kernel_rfl) (by kernel_rfl) sz1_sum fun hpre => Eq.mpr (vcSz1F n _) ?_
  have hn : n ≤ 1099511627776 := hpre _ rfl
  exact Rq.mk ⟨rfl, hn⟩ (qfin rfl rfl rfl rfl)
theorem pl1_sum : SumOK cxPl1 (LL Tryz.f25 [lsPl1]) Tryz.f25.ntmps (loopAt Tryz.f25 0).1 (loopAt Tryz.f25 0).2 lsPl1 := by
  intro vs bs K hs
  unfold lsPl1 at hs
  simp only at hs
  split at hs
  case h_2 => exact hs.elim
  rename_i n o x
  obtain ⟨⟨rfl, ho, hx⟩, h⟩ := hs
  have ho : o = bk [] := kb_inj (List.eq_nil_of_length_eq_zero (by rw [kb_size]; exact ho))
  subst ho
  have h6 := b256_le6 (n := x.toNat) (by omega)
  refine sum_rec (σ := ByteArray × Int) (fun s => [.int .i64 x, .str s.1, .int .i64 s.2]) (fun _ => []) (fun s => bk (b256 s.2.toNat) ++ s.1 = bk (b256 x.toNat) ∧ s.2 ≤ 1099511627776) (fun s => s.2.toNat) ?_ (bk [], x) ⟨kb_inj (by rw [kb_app, kb_bk, kb_bk, List.append_nil]), hx⟩
  rintro ⟨o, y⟩ ⟨h1, h2⟩ R hR
  dsimp only at h1 h2 hR ⊢
  have hsz := congrArg ByteArray.size h1
  rw [ByteArray.size_append, bk_size, bk_size] at hsz
  refine Eq.mpr (vcPl1B x y o _) ⟨fun q => ?_, fun q => ?_⟩
  · have q : y > 0 := of_decide_eq_true q
    have e0 : y.tmod 256 = y % 256 := Int.tmod_eq_emod_of_nonneg (by omega)
    have e1 : IntKind.u8.wrap (y % 256) = y % 256 := by rw [IntKind.wrap_u8]; omega
    have e2 : IntKind.i64.wrap (y.tdiv 256) = y / 256 := by rw [Int.tdiv_eq_ediv_of_nonneg (by omega), wrap_id'] <;> omega
    rw [e0, e1, e2]
    rw [b256_up q] at h1 hsz
    rw [List.length_append, List.length_cons, List.length_nil] at hsz
    have hmx : maxSl = 140737488355328 := rfl
    refine Rq.mk (by decide) (Rq.mk (show 1 ≤ maxSl by decide) (Rq.mk ?_ (Rq.mk (by decide) (hR (strOf [y % 256] ++ o, y / 256) ⟨?_, by dsimp only; omega⟩ (by dsimp only; omega)))))
    · show 1 + o.size ≤ maxSl
      omega
    · dsimp only
      rw [← h1]
      apply kb_inj
      rw [kb_app, kb_app, kb_app, kb_bk, kb_bk, kb_strOf1, show (y % 256).toNat = y.toNat % 256 by omega, List.append_assoc]
  · have q : ¬ y > 0 := of_decide_eq_false q
    rw [b256_no q] at h1
    have h1 : o = bk (b256 x.toNat) := by
      rw [← h1]; apply kb_inj; rw [kb_app, kb_bk]; rfl
    rw [h1]
    exact h
theorem pl1_holds : Holds 25 conPl1 := conP_holds fun n => by
  rcases (show ∃ w : Int, w = n from ⟨_, rfl⟩) with ⟨n, rfl⟩
  refine fun_meets1 (AllH.tok (.cons sz1_holds (by kernel_rfl) .nil)) [] lsPl1 (by kernel_rfl) (by kernel_rfl) pl1_sum fun hpre => Eq.mpr (vcPl1F n _) ?_
  have hn : n ≤ 1099511627776 := hpre _ rfl
  have h6 := b256_le6 (n := n.toNat) (by omega)
  have hmx : maxSl = 140737488355328 := rfl
  refine Rq.mk ⟨rfl, rfl, hn⟩ (Rq.mk hn (Rq.mk (show 1 ≤ maxSl by decide) (Rq.mk ?_ (qfin rfl ?_ rfl rfl))))
  · rw [bk_size]
    show 1 + _ ≤ maxSl
    omega
  · have := num_step (n := n.toNat) (by omega)
    rw [bk_size] at this
    show [AV.str _] = [AV.str (plN n)]
    rw [this]; rfl
theorem tx8_holds : Holds 108 conTx8 := conP_holds fun s => by
  rcases (show ∃ w : ByteArray, w = s from ⟨_, rfl⟩) with ⟨s, rfl⟩
  refine fun_meets0 (AllH.tok (.cons pl1_holds (by kernel_rfl) .nil)) [] (by kernel_rfl) (by kernel_rfl) fun hpre => Eq.mpr (vcTx8F s _) ?_
  have hs : s.size ≤ 1000000 := hpre _ rfl
  have h7 := numL_le (n := s.size) (by omega)
  have hmx : maxSl = 140737488355328 := rfl
  have hz : (plN (s.size : Int)).size ≤ 7 := by rw [plN_eq, bk_size]; exact h7
  refine Rq.mk (by omega) (Rq.mk (by omega) ⟨fun _ => qfin rfl ?_ rfl rfl⟩)
  show [AV.str _] = [AV.str _]
  rw [txR_eq]
theorem no8_sum (k : Nat) : SumOK (cxNo8 k) (LL Tryz.f89 [lsNo8]) Tryz.f89.ntmps (loopAt Tryz.f89 0).1 (loopAt Tryz.f89 0).2 lsNo8 := by
  intro vs bs K hs
  unfold lsNo8 at hs
  simp only at hs
  split at hs
  case h_2 => exact hs.elim
  rename_i o a q i c0 c1 c2 c3 c4 c5
  rcases (show ∃ w : List At, w = a from ⟨_, rfl⟩) with ⟨a, rfl⟩
  obtain ⟨⟨rfl, rfl, hl, hsz, hb⟩, h⟩ := hs
  refine sum_rec (σ := Nat × ByteArray) (fun s => [.ptr 0 0, .str s.2, .row .attr a, .int .i64 a.length, .int .i64 (s.1 : Nat)]) (fun _ => [.box (nodeL ⟨c0, c1, c2, c3, c4, c5⟩)]) (fun s => s.1 ≤ a.length ∧ s.2 ++ bk (attL (a.drop s.1)) = o ++ bk (attL a)) (fun s => a.length - s.1) ?_ (0, o) ⟨Nat.zero_le _, rfl⟩
  rintro ⟨i, b⟩ ⟨hi, he⟩ R hR
  dsimp only at hi he hR ⊢
  have hz := congrArg ByteArray.size he
  rw [ByteArray.size_append, ByteArray.size_append, bk_size, bk_size] at hz
  refine Eq.mpr (vcNo8B k ⟨c0, c1, c2, c3, c4, c5⟩ b a a.length i _) ⟨fun h1 => ?_, fun h1 => ?_⟩
  · have hlt : i < a.length := by have := of_decide_eq_true h1; omega
    rw [rd_atA hlt]
    rw [List.drop_eq_getElem_cons hlt, attL_cons] at he hz
    simp only [List.length_append] at hz
    have hx := hb _ (List.getElem_mem hlt)
    rw [wrap_succ hlt hl]
    refine Rq.mk ⟨by omega, by omega⟩ (Rq.mk (by show a[i].name.size ≤ _; omega) (Rq.mk ?_ (Rq.mk (by show a[i].value.size ≤ _; omega) (Rq.mk ?_ ?_))))
    · rw [bk_size]; show b.size + (txtL (kb a[i].name)).length ≤ _; omega
    · rw [ByteArray.size_append, bk_size, bk_size]; show b.size + (txtL (kb a[i].name)).length + (txtL (kb a[i].value)).length ≤ _; omega
    · refine hR (i + 1, b ++ bk (txtL (kb a[i].name)) ++ bk (txtL (kb a[i].value))) ⟨hlt, ?_⟩ (by dsimp only; omega)
      dsimp only
      rw [← he]
      apply kb_inj
      simp only [kb_app, kb_bk, List.append_assoc]
  · have hge : a.length ≤ i := by have := of_decide_eq_false h1; omega
    rw [List.drop_of_length_le hge] at he
    have : b = o ++ bk (attL a) := by rw [← he]; apply kb_inj; rw [kb_app, kb_bk]; simp [attL]
    rw [this]
    exact h
theorem no8_of (k : Nat) (hp : Holds 58 (conPn8 k)) : Holds 89 (conNo8 k) := conP_holds fun n => by
  rcases (show ∃ w : Nd, w = n from ⟨_, rfl⟩) with ⟨n, rfl⟩
  refine fun_meets1 (AllH.tok (.cons pl1_holds (by kernel_rfl) (.cons lf8_holds (by kernel_rfl) (.cons tx8_holds (by kernel_rfl) (.cons hp (by kernel_rfl) .nil))))) [] lsNo8 (by kernel_rfl) (by kernel_rfl) (no8_sum k) fun hpre => Eq.mpr (vcNo8F k n _) ?_
  obtain ⟨h1, h2, h3, d, h4⟩ : szNds n.kids < k ∧ bndNd n ∧ (ndL n).length ≤ maxSl ∧ ∃ d, fitN d n := hpre _ rfl
  obtain ⟨⟨j, hj, hj3⟩, hsp⟩ := fit_kind h4
  rw [bndNd_eq] at h2
  obtain ⟨⟨b1, b2, b3, b4⟩, b5⟩ := h2
  have hL := ndL_eq n
  have hj : n.1 = j := hj
  simp only [nd_eta]
  refine Rq.mk (by omega) ⟨fun hl => ?_, fun hl => ?_⟩
  · rw [if_pos hl] at hL
    rw [hL, List.length_append] at h3
    refine Rq.mk (by show n.text.size ≤ _; omega) (Rq.mk ?_ (qfin rfl ?_ rfl rfl))
    · rw [bk_size]; unfold plN; rw [bk_size]; exact h3
    · show _ = [AV.str (bk (ndL n))]
      rw [hL]
      unfold plN
      rw [bk_app]
  · rw [if_neg (by rw [hl]; decide)] at hL
    obtain ⟨i, hi, hi2⟩ := hsp hl
    have hi : n.2 = i := hi
    obtain ⟨hc, e, he, hk⟩ := fitN_kids h4 hl
    rw [hL] at h3
    simp only [List.length_append] at h3
    have h3' : (numL n.1.toNat).length + ((numL n.2.toNat).length + (txtL (kb n.3)).length + (numL n.4.length).length + (attL n.4).length + (bytesL n.6).length) ≤ maxSl := h3
    have p1 : plN n.1 = bk (numL n.1.toNat) := rfl
    have p2 : plN n.2 = bk (numL n.2.toNat) := rfl
    have p4 : plN (n.4.length : Int) = bk (numL n.4.length) := plN_eq _
    rw [p1, p2, p4]
    have b3' : n.4.length ≤ 200 := b3
    refine Rq.mk (by omega) (Rq.mk ?_ (Rq.mk (by show n.name.size ≤ _; omega) (Rq.mk ?_ (Rq.mk (by omega) (Rq.mk ?_ ⟨fun _ => ⟨fun ha => Rq.mk ⟨?_, ?_, ha, ?_, b4⟩ (Rq.mk ⟨h1, b5, hc, ?_, e, hk⟩ (Rq.mk ?_ (qfin rfl ?_ rfl rfl)))⟩⟩)))))
    · simp only [bk_size]; omega
    · simp only [ByteArray.size_append, bk_size]; omega
    · simp only [ByteArray.size_append, bk_size]; omega
    · trivial
    · trivial
    · simp only [ByteArray.size_append, bk_size]; omega
    · omega
    · simp only [ByteArray.size_append, bk_size]; omega
    · show _ = [AV.str (bk (ndL n))]
      rw [hL]
      simp only [bk_app]
      simp only [List.append_assoc]
theorem pn8_sum (k : Nat) : SumOK (cxPn8 k) (LL Tryz.f58 [lsPn8 k]) Tryz.f58.ntmps (loopAt Tryz.f58 0).1 (loopAt Tryz.f58 0).2 (lsPn8 k) := by
  intro vs bs K hs
  unfold lsPn8 at hs
  simp only at hs
  split at hs
  case h_2 => exact hs.elim
  rename_i o l m i
  rcases (show ∃ w : List Nd, w = l from ⟨_, rfl⟩) with ⟨l, rfl⟩
  obtain ⟨⟨rfl, rfl, hl, hk, hb, hsz, d, hd⟩, h⟩ := hs
  refine sum_rec (σ := Nat × ByteArray) (fun s => [.str s.2, .row .node l, .int .i64 l.length, .int .i64 (s.1 : Nat)]) (fun _ => []) (fun s => s.1 ≤ l.length ∧ s.2 ++ bk (ndsL (l.drop s.1)) = o ++ bk (ndsL l)) (fun s => l.length - s.1) ?_ (0, o) ⟨Nat.zero_le _, rfl⟩
  rintro ⟨i, b⟩ ⟨hi, he⟩ R hR
  dsimp only at hi he hR ⊢
  have hz := congrArg ByteArray.size he
  rw [ByteArray.size_append, ByteArray.size_append, bk_size, bk_size] at hz
  refine Eq.mpr (vcPn8B k b l l.length i _) ⟨fun h1 => ?_, fun h1 => ?_⟩
  · have hlt : i < l.length := by have := of_decide_eq_true h1; omega
    rw [rd_nd hlt]
    simp only [nd_eta]
    rw [List.drop_eq_getElem_cons hlt, ndsL_cons] at he hz
    rw [List.length_append] at hz
    have hz2 := sz_memT (List.getElem_mem hlt)
    rw [wrap_succ hlt hl]
    refine Rq.mk ⟨by omega, by omega⟩ (Rq.mk ⟨by omega, bnd_mem hb (List.getElem_mem hlt), by omega, d, hd _ (List.getElem_mem hlt)⟩ (Rq.mk ?_ ?_))
    · rw [bk_size]; omega
    · refine hR (i + 1, b ++ bk (ndL l[i])) ⟨hlt, ?_⟩ (by dsimp only; omega)
      dsimp only
      rw [← he]
      apply kb_inj
      simp only [kb_app, kb_bk, List.append_assoc]
  · have hge : l.length ≤ i := by have := of_decide_eq_false h1; omega
    rw [List.drop_of_length_le hge] at he
    have : b = o ++ bk (ndsL l) := by rw [← he]; apply kb_inj; rw [kb_app, kb_bk]; simp [ndsL]
    rw [this]
    exact h
theorem pn8_lt : ∀ k, Holds 58 (conPn8 k)
  | 0 => conP_holds fun l => by
    intro F I w vals _ _ hpre
    exact absurd (hpre _ rfl).1 (Nat.not_lt_zero _)
  | k + 1 => conP_holds fun l => by
    rcases (show ∃ w : List Nd, w = l from ⟨_, rfl⟩) with ⟨l, rfl⟩
    refine fun_meets1 (AllH.tok (.cons pl1_holds (by kernel_rfl) (.cons (no8_of k (pn8_lt k)) (by kernel_rfl) .nil))) [] (lsPn8 k) (by kernel_rfl) (by kernel_rfl) (pn8_sum k) fun hpre => Eq.mpr (vcPn8F k l _) ?_
    obtain ⟨h1, h2, h3, h4, d, h5⟩ : szNds l < k + 1 ∧ bndNds l ∧ l.length ≤ 300 ∧ (bytesL l).length ≤ maxSl ∧ ∃ d, ∀ x ∈ l, fitN d x := hpre _ rfl
    have p4 : plN (l.length : Int) = bk (numL l.length) := plN_eq _
    rw [p4]
    unfold bytesL at h4
    rw [List.length_append] at h4
    refine Rq.mk (by omega) ⟨fun _ => ⟨fun hm => Rq.mk ⟨rfl, rfl, hm, h1, h2, by rw [bk_size]; exact h4, d, h5⟩ (qfin rfl ?_ rfl rfl)⟩⟩
    show _ = [AV.str (bk (bytesL l))]
    rw [bk_app]; rfl
theorem pn8_holds : Holds 58 conPn8' := conP_holds fun l => by
  rcases (show ∃ w : List Nd, w = l from ⟨_, rfl⟩) with ⟨l, rfl⟩
  intro F I w vals hH hv hpre
  exact pn8_lt (szNds l + 1) [.row .node l] [] { pre := some (szNds l < szNds l + 1 ∧ bndNds l ∧ l.length ≤ 300 ∧ (bytesL l).length ≤ maxSl ∧ ∃ d, ∀ x ∈ l, fitN d x), res := .str (bk (bytesL l)) } rfl F I w vals hH hv (fun p hp => by injection hp with hp; subst hp; exact ⟨Nat.lt_succ_self _, hpre _ rfl⟩)
theorem lo8A_sum (k : Nat) : SumOK (cxLo8 k) (LL Tryz.f57 [lsLo8 k, lsLoA]) Tryz.f57.ntmps (loopAt Tryz.f57 1).1 (loopAt Tryz.f57 1).2 lsLoA := by
  intro vs bs K hs
  unfold lsLoA at hs
  simp only at hs
  split at hs
  case h_2 => exact hs.elim
  rename_i l m j a q i
  rcases (show ∃ w : List At, w = a from ⟨_, rfl⟩) with ⟨a, rfl⟩
  obtain ⟨⟨rfl, rfl, hl⟩, h⟩ := hs
  refine sum_rec (σ := Nat) (fun i => [.row .node l, .int .i64 m, .int .i64 j, .row .attr a, .int .i64 a.length, .int .i64 (i : Nat)]) (fun _ => []) (fun i => i ≤ a.length ∧ (a.drop i).any bigA = a.any bigA) (fun i => a.length - i) ?_ 0 ⟨Nat.zero_le _, rfl⟩
  rintro i ⟨hi, he⟩ R hR
  refine Eq.mpr (vcLo8A k l a m j a.length i _) ⟨fun h1 => ?_, fun h1 => ?_⟩
  · have hlt : i < a.length := by have := of_decide_eq_true h1; omega
    rw [rd_atA hlt, wrap_succ hlt hl]
    rw [List.drop_eq_getElem_cons hlt, List.any_cons] at he
    refine Rq.mk ⟨by omega, by omega⟩ ⟨fun _ => ⟨fun h2 => h.yes ?_, fun h2 => hR (i + 1) ⟨hlt, ?_⟩ (by omega)⟩⟩
    · have h2 : bigA a[i] = true := h2
      rw [h2, Bool.true_or] at he; exact he.symm
    · have h2 : bigA a[i] = false := h2
      rw [h2, Bool.false_or] at he; exact he
  · have hge : a.length ≤ i := by have := of_decide_eq_false h1; omega
    rw [List.drop_of_length_le hge] at he
    exact h.no he.symm
theorem lo8_sum (k : Nat) : SumOK (cxLo8 k) (LL Tryz.f57 [lsLo8 k, lsLoA]) Tryz.f57.ntmps (loopAt Tryz.f57 0).1 (loopAt Tryz.f57 0).2 (lsLo8 k) := by
  intro vs bs K hs
  unfold lsLo8 at hs
  simp only at hs
  split at hs
  case h_2 => exact hs.elim
  rename_i l m i
  rcases (show ∃ w : List Nd, w = l from ⟨_, rfl⟩) with ⟨l, rfl⟩
  obtain ⟨⟨rfl, rfl, hl, hk⟩, h⟩ := hs
  refine sum_rec (σ := Nat) (fun i => [.row .node l, .int .i64 l.length, .int .i64 (i : Nat)]) (fun _ => []) (fun i => i ≤ l.length ∧ lonNds (l.drop i) = lonNds l) (fun i => l.length - i) ?_ 0 ⟨Nat.zero_le _, rfl⟩
  rintro i ⟨hi, he⟩ R hR
  refine Eq.mpr (vcLo8B k l l.length i _) ⟨fun h1 => ?_, fun h1 => ?_⟩
  · have hlt : i < l.length := by have := of_decide_eq_true h1; omega
    rw [rd_nd hlt, wrap_succ hlt hl]
    rw [List.drop_eq_getElem_cons hlt, lonNds, lonNd_eq] at he
    have hz := sz_memT (List.getElem_mem hlt)
    have hd : longN l[i] = (decide ((l[i].5.size : Int) > 65536) || l[i].4.any bigA) := rfl
    rw [hd] at he
    refine Rq.mk ⟨by omega, by omega⟩ ⟨fun h2 => ⟨fun _ => h.yes ?_⟩, fun h2 => Rq.mk (by show szNds l[i].kids < k; omega) ⟨fun _ => ⟨fun h3 => h.yes ?_, fun h3 => ⟨fun ha => Rq.mk ⟨rfl, rfl, ha⟩ ⟨fun h4 => h.yes ?_, fun h4 => hR (i + 1) ⟨hlt, ?_⟩ (by omega)⟩⟩⟩⟩⟩
    · rw [h2, Bool.true_or, Bool.true_or, Bool.true_or] at he; exact he.symm
    · rw [h3, Bool.or_true, Bool.true_or] at he; exact he.symm
    · rw [h4, Bool.or_true, Bool.true_or, Bool.true_or] at he; exact he.symm
    · rw [h2, h3, h4] at he; exact he
  · have hge : l.length ≤ i := by have := of_decide_eq_false h1; omega
    rw [List.drop_of_length_le hge, lonNds] at he
    exact h.no he.symm
theorem lo8_lt : ∀ k, Holds 57 (conLo8 k)
  | 0 => conP_holds fun l => by
    intro F I w vals _ _ hpre
    exact absurd (hpre _ rfl) (Nat.not_lt_zero _)
  | k + 1 => conP_holds fun l => by
    rcases (show ∃ w : List Nd, w = l from ⟨_, rfl⟩) with ⟨l, rfl⟩
    refine fun_meets2 (AllH.tok (.cons (lo8_lt k) (by kernel_rfl) .nil)) [] (lsLo8 k) lsLoA (by kernel_rfl) (by kernel_rfl) (lo8_sum k) (lo8A_sum k) fun hpre => Eq.mpr (vcLo8F k l _) ?_
    have h1 : szNds l < k + 1 := hpre _ rfl
    have e : ∀ b, lonNds l = b → [AV.bool b] = compsOf (.bool (lonNds l)) := fun b h => by rw [h]; rfl
    exact ⟨fun hm => Rq.mk ⟨rfl, rfl, hm, h1⟩ ⟨fun h => qfin rfl (e _ h) rfl rfl, fun h => qfin rfl (e _ h) rfl rfl⟩⟩
theorem lo8_holds : Holds 57 conLo8' := conP_holds fun l => by
  rcases (show ∃ w : List Nd, w = l from ⟨_, rfl⟩) with ⟨l, rfl⟩
  intro F I w vals hH hv hpre
  exact lo8_lt (szNds l + 1) [.row .node l] [] { pre := some (szNds l < szNds l + 1), res := .bool (lonNds l) } rfl F I w vals hH hv (fun p hp => by injection hp with hp; subst hp; exact Nat.lt_succ_self _)
end Go.Proofs.YtnhipiedjekkpaaGreatDoor.AX
end
section
namespace Go.Proofs.YtnhipiedjekkpaaGreatDoor.AXP
open Go Go.Proofs.YtnhipiedjekkpaaGreatDoor.AX
def mchB (n : Nd) : Bool := lonNds [n] || decide (((bytesL [n]).length : Int) > 65536)
end Go.Proofs.YtnhipiedjekkpaaGreatDoor.AXP
namespace Go.Proofs.YtnhipiedjekkpaaGreatDoor.AX
open Go AXP
noncomputable def cxT23 : Cx := cxT (tabLook [(25, conPl1)])
def conT23 : Con := conP [.str] fun (s : ByteArray) => { pre := some (s.size ≤ 1000000), res := .str (bk (txtL (kb s))) }
noncomputable def cxL23 : Cx := cxT (tabLook [(25, conPl1), (59, conT23)])
def lsL23 : LS where
  keep := [(3, .as), (10, .as), (11, .as), (12, .as)]
  left := [(3, .as)]
  sum := fun vs bs K => match vs, bs with
    | [.str o, .row .attr l, .int .i64 m, .int .i64 i], [] => Rq (m = l.length ∧ i = 0 ∧ l.length ≤ 1000 ∧ o.size ≤ 7 ∧ ∀ a ∈ l, a.name.size ≤ 65536 ∧ a.value.size ≤ 65536) (K (.exit 0) [.str (o ++ bk (txsL (flA l)))] [])
    | _, _ => False
def conL23 : Con := conP [.row .attr] fun (l : List At) => { pre := some (l.length ≤ 500 ∧ ∀ a ∈ l, a.name.size ≤ 65536 ∧ a.value.size ≤ 65536), res := .str (bk (lstL (flA l))) }
noncomputable def cxZ23 : Cx := cxT (tabLook [(37, conNode')])
noncomputable def cxR23 : Cx := cxT (tabLook [(91, conCk8)])
noncomputable def cxA23 : Cx := cxT (tabLook [(64, conZeroD)])
def lsA23 : LS where
  keep := [(1, .as), (6, .as), (7, .as), (8, .as)]
  left := [(1, .as), (2, .as)]
  sum := fun vs bs K => match vs, bs with
    | [.ptr 0 0, .row .attr a, .int .i64 m, .int .i64 i], [.box [.int .i64 c0, .int .i64 c1, .str c2, .row .attr c3, .str c4, .row .node c5]] => Rq (m = a.length ∧ i = 0 ∧ a.length ≤ maxSl)
      (Br (a.any longA) (K .ret [.ptr 0 0, .bool false] [.box [.int .i64 c0, .int .i64 c1, .str c2, .row .attr c3, .str c4, .row .node c5]]) (K (.exit 0) [.ptr 0 0, .any] [.box [.int .i64 c0, .int .i64 c1, .str c2, .row .attr c3, .str c4, .row .node c5]]))
    | _, _ => False
noncomputable def cxP23 : Cx := cxT (tabLook [(64, conZeroD), (65, conRigD), (66, conAtsD), (67, conWdsD)])
def lsP23 : LS where
  keep := [(1, .as), (6, .as), (7, .as), (8, .as)]
  left := [(1, .as), (2, .as)]
  sum := fun vs bs K => match vs, bs with
    | [.ptr 0 0, .row .int w, .int .i64 m, .int .i64 i], [.box [.int .i64 k, .row .int v, .int .i64 o0, .int .i64 o1, .str o2, .row .attr o3, .str o4, .row .node o5, .int .i64 n0, .int .i64 n1, .str n2, .row .attr n3, .str n4, .row .node n5]] => Rq (m = w.length ∧ i = 0 ∧ w.length ≤ maxSl)
      (Br (w.any oddI) (K .ret [.ptr 0 0, .bool false] [.box [.int .i64 k, .row .int v, .int .i64 o0, .int .i64 o1, .str o2, .row .attr o3, .str o4, .row .node o5, .int .i64 n0, .int .i64 n1, .str n2, .row .attr n3, .str n4, .row .node n5]]) (K (.exit 0) [.ptr 0 0, .any] [.box [.int .i64 k, .row .int v, .int .i64 o0, .int .i64 o1, .str o2, .row .attr o3, .str o4, .row .node o5, .int .i64 n0, .int .i64 n1, .str n2, .row .attr n3, .str n4, .row .node n5]]))
    | _, _ => False
noncomputable def conP23 : Con := conP [.agg .redit] fun (x : Ed) => { pre := some (fineEd x), res := .bool (plainB x) }
noncomputable def cxC23 : Cx := cxT (tabLook [(31, conP23)])
def lsC23 : LS where
  keep := [(8, .as), (9, .as), (10, .as)]
  left := [(2, .as)]
  sum := fun vs bs K => match vs, bs with
    | [.row .redit s, .int .i64 m, .int .i64 i], [] => Rq (m = s.length ∧ i = 0 ∧ s.length ≤ maxSl ∧ fineEds s) (Br (s.any npB) (K .ret [.int .i64 4] []) (K (.exit 0) [.any] []))
    | _, _ => False
def conC23 : Con := conP [.row .redit] fun (s : List Ed) => { pre := some (fineEds s), res := .int .i64 (dchkS s) }
noncomputable def cxM23 : Cx := cxT (tabLook [(57, conLo8'), (58, conPn8')])
def conM23 : Con := conP [.agg .node] fun (n : Nd) => { pre := some (fineNds [n] ∧ checkS [n] = 0), res := .bool (mchB n) }
noncomputable def cxO23 : Cx := cxT (tabLook [(25, conPl1), (58, conPn8'), (59, conT23), (60, conL23)])
def lsO23 : LS where
  keep := [(1, .as), (3, .as), (15, .as), (16, .as), (17, .as)]
  left := [(1, .as), (3, .as)]
  sum := fun vs bs K => match vs, bs with
    | [.ptr 0 0, .str o, .row .int w, .int .i64 m, .int .i64 i], [.box [.int .i64 k, .row .int v, .int .i64 o0, .int .i64 o1, .str o2, .row .attr o3, .str o4, .row .node o5, .int .i64 n0, .int .i64 n1, .str n2, .row .attr n3, .str n4, .row .node n5]] => Rq (m = w.length ∧ i = 0 ∧ w.length ≤ 41 ∧ o.size ≤ 14 ∧ ∀ i ∈ w, 0 ≤ i ∧ i ≤ 300) (K (.exit 0) [.ptr 0 0, .str (o ++ bk (wayL w))] [.box [.int .i64 k, .row .int v, .int .i64 o0, .int .i64 o1, .str o2, .row .attr o3, .str o4, .row .node o5, .int .i64 n0, .int .i64 n1, .str n2, .row .attr n3, .str n4, .row .node n5]])
    | _, _ => False
def conO23 : Con := conP [.agg .redit] fun (x : Ed) => { pre := some (plainB x = true ∧ wrE x = 0 ∧ fineEd x), res := .str (bk (edL x)) }
noncomputable def cxB23 : Cx := cxT (tabLook [(14, conC23), (25, conPl1), (26, conM23), (27, conO23)])
def lsB23 : LS where
  keep := [(5, .as), (16, .as), (17, .as), (18, .as)]
  left := [(5, .as), (2, .as), (3, .as)]
  sum := fun vs bs K => match vs, bs with
    | [.str o, .row .redit s, .int .i64 m, .int .i64 i], [] => Rq (m = s.length ∧ i = 0 ∧ s.length ≤ 400 ∧ o.size ≤ 7 ∧ ∀ x ∈ s, plainB x = true ∧ fineEd x)
      (Br (dbE s == 0) (K (.exit 0) [.str (o ++ bk (edsL s)), .any, .any] []) (K .ret [.str (o ++ bk (pfx s)), .str ⟨#[]⟩, .int .i64 2] []))
    | _, _ => False
def conB23 : Con := conP [.row .redit] fun (s : List Ed) => { pre := some (fineEds s), res := .tup [.str (dlyS s), .int .i64 (dlyE s)] }
def lsRef23 : LS where
  keep := [(3, .own .redit), (6, .as), (7, .as), (8, .as)]
  left := [(3, .own .redit)]
  sum := fun vs bs K => match vs, bs with
    | [.own 0 0, .row .edit s, .int .i64 m, .int .i64 i], [.rowb 0 .redit l] => Rq (m = s.length ∧ i = 0 ∧ l.length = 0 ∧ s.length * 224 ≤ maxSl) (K (.exit 0) [.own 0 0] [.rowb 0 .redit s])
    | _, _ => False
def conRef23 : Con := conP [.row .edit] fun (s : List Ed) => { pre := some (s.length * 224 ≤ maxSl), res := .row .redit s }
noncomputable def cxWD : Cx := cxT (tabLook [(7, conLongD), (8, conEmp), (9, conDBytes), (10, conDSize), (12, conRef23), (11, conB23), (13, conCkD), (14, conC23)])
def conDeltaWrites : Con := conP [.row .edit] fun (_ : List Ed) => { res := .bool true }
end Go.Proofs.YtnhipiedjekkpaaGreatDoor.AX
end
section
namespace Go.Proofs.YtnhipiedjekkpaaGreatDoor.AX
open Go AXP
set_option maxRecDepth 100000
theorem vcT23F (s : ByteArray) (Q : List AV → List Blk → List Blk → Prop) : (funA cxT23 (LL Tryz.f59 []) Tryz.f59 [.str s] [] [] Q) = (
Rq ((↑s.size : Int) ≤ (1099511627776 : Int))
 (Rq ((plN (↑s.size : Int)).size + s.size ≤ maxSl) (Gv (s.size ≤ maxSl) (Q [AV.str (plN (↑s.size : Int) ++ s)] [] [])))) := by kernel_rfl
theorem vcL23B (o : ByteArray) (l : List At) (m i : Int) (K : Ex → List AV → List Blk → Prop) : (bodyA cxL23 (LL Tryz.f60 [lsL23]) Tryz.f60.ntmps (loopAt Tryz.f60 0).1 (loopAt Tryz.f60 0).2 lsL23.keep lsL23.left K [.str o, .row .attr l, .int .i64 m, .int .i64 i] []) = (
Br (decide (i < m))
 (Rq ((0 : Int) ≤ i ∧ i < (↑l.length : Int))
 (Rq ((rd Ty.attr l i).1.size ≤ (1000000 : Nat))
 (Rq (o.size + (bk (txtL (kb (rd Ty.attr l i).1))).size ≤ maxSl)
 (Rq ((rd Ty.attr l i).2.size ≤ (1000000 : Nat))
 (Rq ((o ++ bk (txtL (kb (rd Ty.attr l i).1))).size + (bk (txtL (kb (rd Ty.attr l i).2))).size ≤ maxSl)
 (K Ex.norm
 [AV.str (o ++ bk (txtL (kb (rd Ty.attr l i).1)) ++ bk (txtL (kb (rd Ty.attr l i).2))), AV.row Ty.attr l,
 AV.int IntKind.i64 m, AV.int IntKind.i64 (IntKind.i64.wrap (i + (1 : Int)))]
 []))))))
 (K (Ex.exit (0 : Nat)) [AV.str o] [])) := by kernel_rfl
theorem vcL23F (l : List At) (Q : List AV → List Blk → List Blk → Prop) : (funA cxL23 (LL Tryz.f60 [lsL23]) Tryz.f60 [.row .attr l] [] [] Q) = (
Rq (IntKind.i64.wrap ((2 : Int) * (↑l.length : Int)) ≤ (1099511627776 : Int))
 (Gv (l.length ≤ maxSl)
 (Gv (l.length ≤ maxSl)
 (Rq
 ((↑l.length : Int) = (↑l.length : Int) ∧
 (0 : Int) = (0 : Int) ∧
 l.length ≤ (1000 : Nat) ∧
 (plN (IntKind.i64.wrap ((2 : Int) * (↑l.length : Int)))).size ≤ (7 : Nat) ∧
 ∀ (a : den Ty.attr), a ∈ l → a.name.size ≤ (65536 : Nat) ∧ a.value.size ≤ (65536 : Nat))
 (Q [AV.str (plN (IntKind.i64.wrap ((2 : Int) * (↑l.length : Int))) ++ bk (txsL (flA l)))] [] []))))) := by kernel_rfl
theorem vcZ23F (n : Nd) (Q : List AV → List Blk → List Blk → Prop) : (funA cxZ23 (LL Tryz.f64 []) Tryz.f64 [.agg (nodeL n)] [] [] Q) = (
Q
 [AV.bool
 (eqNd (Nd.mk n.1 n.2 n.3 n.4 n.5 n.6)
 (Nd.mk (0 : Int) (0 : Int) (ByteArray.mk (Array.mk [])) [] (ByteArray.mk (Array.mk [])) []))]
 [] []) := by kernel_rfl
theorem vcR23F (n : Nd) (Q : List AV → List Blk → List Blk → Prop) : (funA cxR23 (LL Tryz.f65 []) Tryz.f65 [.agg (nodeL n)] [] [] Q) = (
Rq (fineNds [Nd.mk n.1 n.2 n.3 n.4 n.5 n.6]) (Q [AV.bool (checkS [Nd.mk n.1 n.2 n.3 n.4 n.5 n.6] == (0 : Int))] [] [])) := by kernel_rfl
theorem vcA23B (n : Nd) (a : List At) (m i : Int) (K : Ex → List AV → List Blk → Prop) : (bodyA cxA23 (LL Tryz.f66 [lsA23]) Tryz.f66.ntmps (loopAt Tryz.f66 0).1 (loopAt Tryz.f66 0).2 lsA23.keep lsA23.left K [.ptr 0 0, .row .attr a, .int .i64 m, .int .i64 i] [.box (nodeL n)]) = (
Br (decide (i < m))
 (Rq ((0 : Int) ≤ i ∧ i < (↑a.length : Int))
 (Br (decide ((↑(rd Ty.attr a i).1.size : Int) > (65536 : Int)))
 (Gv ((rd Ty.attr a i).1.size ≤ maxSl)
 (K Ex.ret [AV.ptr (0 : Nat) (0 : Nat), AV.bool false]
 [Blk.box
 [AV.int IntKind.i64 n.1, AV.int IntKind.i64 n.2, AV.str n.3, AV.row Ty.attr n.4, AV.str n.5,
 AV.row Ty.node n.6]]))
 (Gv ((rd Ty.attr a i).1.size ≤ maxSl)
 (Gv ((rd Ty.attr a i).2.size ≤ maxSl)
 (Br (decide ((↑(rd Ty.attr a i).2.size : Int) > (65536 : Int)))
 (K Ex.ret [AV.ptr (0 : Nat) (0 : Nat), AV.bool false]
 [Blk.box
 [AV.int IntKind.i64 n.1, AV.int IntKind.i64 n.2, AV.str n.3, AV.row Ty.attr n.4, AV.str n.5,
 AV.row Ty.node n.6]])
 (K Ex.norm
 [AV.ptr (0 : Nat) (0 : Nat), AV.row Ty.attr a, AV.int IntKind.i64 m,
 AV.int IntKind.i64 (IntKind.i64.wrap (i + (1 : Int)))]
 [Blk.box
 [AV.int IntKind.i64 n.1, AV.int IntKind.i64 n.2, AV.str n.3, AV.row Ty.attr n.4, AV.str n.5,
 AV.row Ty.node n.6]]))))))
 (K (Ex.exit (0 : Nat)) [AV.ptr (0 : Nat) (0 : Nat), AV.any]
 [Blk.box
 [AV.int IntKind.i64 n.1, AV.int IntKind.i64 n.2, AV.str n.3, AV.row Ty.attr n.4, AV.str n.5,
 AV.row Ty.node n.6]])) := by kernel_rfl
theorem vcA23F (n : Nd) (Q : List AV → List Blk → List Blk → Prop) : (funA cxA23 (LL Tryz.f66 [lsA23]) Tryz.f66 [.agg (nodeL n)] [] [] Q) = (
Gv (n.4.length ≤ maxSl)
 (Rq ((↑n.4.length : Int) = (↑n.4.length : Int) ∧ (0 : Int) = (0 : Int) ∧ n.4.length ≤ maxSl)
 (Br (n.4.any longA) (Q [AV.bool false] [] [])
 (Br (decide ((↑n.4.length : Int) < (13 : Int)))
 (Gv (n.4.length ≤ maxSl) (Q [AV.bool (zeroB (Nd.mk n.1 n.2 n.3 [] n.5 n.6))] [] []))
 (Gv (n.4.length ≤ maxSl) (Q [AV.bool false] [] [])))))) := by kernel_rfl
theorem vcW23F (n : Nd) (Q : List AV → List Blk → List Blk → Prop) : (funA cxA23 (LL Tryz.f67 []) Tryz.f67 [.agg (nodeL n)] [] [] Q) = (
Br (decide ((↑n.5.size : Int) ≤ (65536 : Int)))
 (Gv (n.5.size ≤ maxSl) (Q [AV.bool (zeroB (Nd.mk n.1 n.2 n.3 n.4 (ByteArray.mk (Array.mk [])) n.6))] [] []))
 (Gv (n.5.size ≤ maxSl) (Q [AV.bool false] [] []))) := by kernel_rfl
theorem vcP23B (x : Ed) (w : List Int) (m i : Int) (K : Ex → List AV → List Blk → Prop) : (bodyA cxP23 (LL Tryz.f31 [lsP23]) Tryz.f31.ntmps (loopAt Tryz.f31 0).1 (loopAt Tryz.f31 0).2 lsP23.keep lsP23.left K [.ptr 0 0, .row .int w, .int .i64 m, .int .i64 i] [.box (editL x)]) = (
Br (decide (i < m))
 (Rq ((0 : Int) ≤ i ∧ i < (↑w.length : Int))
 (Br (decide (rd Ty.int w i < (0 : Int)))
 (K Ex.ret [AV.ptr (0 : Nat) (0 : Nat), AV.bool false]
 [Blk.box
 [AV.int IntKind.i64 x.1, AV.row Ty.int x.2, AV.int IntKind.i64 x.3.1, AV.int IntKind.i64 x.3.2,
 AV.str x.3.3, AV.row Ty.attr x.3.4, AV.str x.3.5, AV.row Ty.node x.3.6, AV.int IntKind.i64 x.4.1,
 AV.int IntKind.i64 x.4.2, AV.str x.4.3, AV.row Ty.attr x.4.4, AV.str x.4.5, AV.row Ty.node x.4.6]])
 (Br (decide (rd Ty.int w i > (300 : Int)))
 (K Ex.ret [AV.ptr (0 : Nat) (0 : Nat), AV.bool false]
 [Blk.box
 [AV.int IntKind.i64 x.1, AV.row Ty.int x.2, AV.int IntKind.i64 x.3.1, AV.int IntKind.i64 x.3.2,
 AV.str x.3.3, AV.row Ty.attr x.3.4, AV.str x.3.5, AV.row Ty.node x.3.6, AV.int IntKind.i64 x.4.1,
 AV.int IntKind.i64 x.4.2, AV.str x.4.3, AV.row Ty.attr x.4.4, AV.str x.4.5, AV.row Ty.node x.4.6]])
 (K Ex.norm
 [AV.ptr (0 : Nat) (0 : Nat), AV.row Ty.int w, AV.int IntKind.i64 m,
 AV.int IntKind.i64 (IntKind.i64.wrap (i + (1 : Int)))]
 [Blk.box
 [AV.int IntKind.i64 x.1, AV.row Ty.int x.2, AV.int IntKind.i64 x.3.1, AV.int IntKind.i64 x.3.2,
 AV.str x.3.3, AV.row Ty.attr x.3.4, AV.str x.3.5, AV.row Ty.node x.3.6, AV.int IntKind.i64 x.4.1,
 AV.int IntKind.i64 x.4.2, AV.str x.4.3, AV.row Ty.attr x.4.4, AV.str x.4.5, AV.row Ty.node x.4.6]]))))
 (K (Ex.exit (0 : Nat)) [AV.ptr (0 : Nat) (0 : Nat), AV.any]
 [Blk.box
 [AV.int IntKind.i64 x.1, AV.row Ty.int x.2, AV.int IntKind.i64 x.3.1, AV.int IntKind.i64 x.3.2, AV.str x.3.3,
 AV.row Ty.attr x.3.4, AV.str x.3.5, AV.row Ty.node x.3.6, AV.int IntKind.i64 x.4.1, AV.int IntKind.i64 x.4.2,
 AV.str x.4.3, AV.row Ty.attr x.4.4, AV.str x.4.5, AV.row Ty.node x.4.6]])) := by kernel_rfl
theorem vcP23F (x : Ed) (Q : List AV → List Blk → List Blk → Prop) : (funA cxP23 (LL Tryz.f31 [lsP23]) Tryz.f31 [.agg (editL x)] [] [] Q) = (
Gv (x.2.length ≤ maxSl)
 (Rq ((↑x.2.length : Int) = (↑x.2.length : Int) ∧ (0 : Int) = (0 : Int) ∧ x.2.length ≤ maxSl)
 (Br (x.2.any oddI) (Q [AV.bool false] [] [])
 (Br (decide ((↑x.2.length : Int) < (1 : Int))) (Gv (x.2.length ≤ maxSl) (Q [AV.bool false] [] []))
 (Gv (x.2.length ≤ maxSl)
 (Gv (x.2.length ≤ maxSl)
 (Br (decide ((↑x.2.length : Int) > (41 : Int))) (Q [AV.bool false] [] [])
 (Br (x.1 == (1 : Int))
 (Br (zeroB (Nd.mk x.3.1 x.3.2 x.3.3 x.3.4 x.3.5 x.3.6))
 (Rq (fineNds [Nd.mk x.4.1 x.4.2 x.4.3 x.4.4 x.4.5 x.4.6])
 (Q [AV.bool (rig1 (Nd.mk x.4.1 x.4.2 x.4.3 x.4.4 x.4.5 x.4.6))] [] []))
 (Q [AV.bool false] [] []))
 (Br (x.1 == (2 : Int))
 (Rq (fineNds [Nd.mk x.3.1 x.3.2 x.3.3 x.3.4 x.3.5 x.3.6])
 (Br (rig1 (Nd.mk x.3.1 x.3.2 x.3.3 x.3.4 x.3.5 x.3.6))
 (Q [AV.bool (zeroB (Nd.mk x.4.1 x.4.2 x.4.3 x.4.4 x.4.5 x.4.6))] [] [])
 (Q [AV.bool false] [] [])))
 (Br (x.1 == (3 : Int))
 (Br (atsB (Nd.mk x.3.1 x.3.2 x.3.3 x.3.4 x.3.5 x.3.6))
 (Q [AV.bool (atsB (Nd.mk x.4.1 x.4.2 x.4.3 x.4.4 x.4.5 x.4.6))] [] []) (Q [AV.bool false] [] []))
 (Br (x.1 == (4 : Int))
 (Br (wdsB (Nd.mk x.3.1 x.3.2 x.3.3 x.3.4 x.3.5 x.3.6))
 (Q [AV.bool (wdsB (Nd.mk x.4.1 x.4.2 x.4.3 x.4.4 x.4.5 x.4.6))] [] [])
 (Q [AV.bool false] [] []))
 (Q [AV.bool false] [] [])))))))))))) := by kernel_rfl
theorem vcC23B (s : List Ed) (m i : Int) (K : Ex → List AV → List Blk → Prop) : (bodyA cxC23 (LL Tryz.f14 [lsC23]) Tryz.f14.ntmps (loopAt Tryz.f14 0).1 (loopAt Tryz.f14 0).2 lsC23.keep lsC23.left K [.row .redit s, .int .i64 m, .int .i64 i] []) = (
Br (decide (i < m))
 (Rq ((0 : Int) ≤ i ∧ i < (↑s.length : Int))
 (Rq
 (fineEd
 (Ed.mk (rd Ty.redit s i).1 (rd Ty.redit s i).2
 (Nd.mk (rd Ty.redit s i).3.1 (rd Ty.redit s i).3.2 (rd Ty.redit s i).3.3 (rd Ty.redit s i).3.4
 (rd Ty.redit s i).3.5 (rd Ty.redit s i).3.6)
 (Nd.mk (rd Ty.redit s i).4.1 (rd Ty.redit s i).4.2 (rd Ty.redit s i).4.3 (rd Ty.redit s i).4.4
 (rd Ty.redit s i).4.5 (rd Ty.redit s i).4.6)))
 (Br
 (!plainB
 (Ed.mk (rd Ty.redit s i).1 (rd Ty.redit s i).2
 (Nd.mk (rd Ty.redit s i).3.1 (rd Ty.redit s i).3.2 (rd Ty.redit s i).3.3 (rd Ty.redit s i).3.4
 (rd Ty.redit s i).3.5 (rd Ty.redit s i).3.6)
 (Nd.mk (rd Ty.redit s i).4.1 (rd Ty.redit s i).4.2 (rd Ty.redit s i).4.3 (rd Ty.redit s i).4.4
 (rd Ty.redit s i).4.5 (rd Ty.redit s i).4.6)))
 (K Ex.ret [AV.int IntKind.i64 (4 : Int)] [])
 (K Ex.norm [AV.row Ty.redit s, AV.int IntKind.i64 m, AV.int IntKind.i64 (IntKind.i64.wrap (i + (1 : Int)))]
 []))))
 (K (Ex.exit (0 : Nat)) [AV.any] [])) := by kernel_rfl
theorem vcC23F (s : List Ed) (Q : List AV → List Blk → List Blk → Prop) : (funA cxC23 (LL Tryz.f14 [lsC23]) Tryz.f14 [.row .redit s] [] [] Q) = (
Gv (s.length ≤ maxSl)
 (Br (decide ((↑s.length : Int) > (400 : Int))) (Q [AV.int IntKind.i64 (2 : Int)] [] [])
 (Gv (s.length ≤ maxSl)
 (Rq ((↑s.length : Int) = (↑s.length : Int) ∧ (0 : Int) = (0 : Int) ∧ s.length ≤ maxSl ∧ fineEds s)
 (Br (s.any npB) (Q [AV.int IntKind.i64 (4 : Int)] [] []) (Q [AV.int IntKind.i64 (0 : Int)] [] [])))))) := by kernel_rfl
theorem vcM23F (n : Nd) (Q : List AV → List Blk → List Blk → Prop) : (funA cxM23 (LL Tryz.f26 []) Tryz.f26 [.agg (nodeL n)] [] [] Q) = (
Br (lonNds [Nd.mk n.1 n.2 n.3 n.4 n.5 n.6]) (Q [AV.bool true] [] [])
 (Rq
 (bndNds [Nd.mk n.1 n.2 n.3 n.4 n.5 n.6] ∧
 [Nd.mk n.1 n.2 n.3 n.4 n.5 n.6].length ≤ (300 : Nat) ∧
 (bytesL [Nd.mk n.1 n.2 n.3 n.4 n.5 n.6]).length ≤ maxSl ∧
 ∃ d, ∀ (x : Nd), x ∈ [Nd.mk n.kind n.space n.name n.attrs n.text n.kids] → fitN d x)
 (Gv ((bk (bytesL [Nd.mk n.1 n.2 n.3 n.4 n.5 n.6])).size ≤ maxSl)
 (Q [AV.bool (decide ((↑(bk (bytesL [Nd.mk n.1 n.2 n.3 n.4 n.5 n.6])).size : Int) > (65536 : Int)))] [] [])))) := by kernel_rfl
theorem vcO23B (x : Ed) (o : ByteArray) (w : List Int) (m i : Int) (K : Ex → List AV → List Blk → Prop) : (bodyA cxO23 (LL Tryz.f27 [lsO23]) Tryz.f27.ntmps (loopAt Tryz.f27 0).1 (loopAt Tryz.f27 0).2 lsO23.keep lsO23.left K [.ptr 0 0, .str o, .row .int w, .int .i64 m, .int .i64 i] [.box (editL x)]) = (
Br (decide (i < m))
 (Rq ((0 : Int) ≤ i ∧ i < (↑w.length : Int))
 (Rq (rd Ty.int w i ≤ (1099511627776 : Int))
 (Rq (o.size + (plN (rd Ty.int w i)).size ≤ maxSl)
 (K Ex.norm
 [AV.ptr (0 : Nat) (0 : Nat), AV.str (o ++ plN (rd Ty.int w i)), AV.row Ty.int w, AV.int IntKind.i64 m,
 AV.int IntKind.i64 (IntKind.i64.wrap (i + (1 : Int)))]
 [Blk.box
 [AV.int IntKind.i64 x.1, AV.row Ty.int x.2, AV.int IntKind.i64 x.3.1, AV.int IntKind.i64 x.3.2,
 AV.str x.3.3, AV.row Ty.attr x.3.4, AV.str x.3.5, AV.row Ty.node x.3.6, AV.int IntKind.i64 x.4.1,
 AV.int IntKind.i64 x.4.2, AV.str x.4.3, AV.row Ty.attr x.4.4, AV.str x.4.5, AV.row Ty.node x.4.6]]))))
 (K (Ex.exit (0 : Nat)) [AV.ptr (0 : Nat) (0 : Nat), AV.str o]
 [Blk.box
 [AV.int IntKind.i64 x.1, AV.row Ty.int x.2, AV.int IntKind.i64 x.3.1, AV.int IntKind.i64 x.3.2, AV.str x.3.3,
 AV.row Ty.attr x.3.4, AV.str x.3.5, AV.row Ty.node x.3.6, AV.int IntKind.i64 x.4.1, AV.int IntKind.i64 x.4.2,
 AV.str x.4.3, AV.row Ty.attr x.4.4, AV.str x.4.5, AV.row Ty.node x.4.6]])) := by kernel_rfl
theorem vcO23F (x : Ed) (Q : List AV → List Blk → List Blk → Prop) : (funA cxO23 (LL Tryz.f27 [lsO23]) Tryz.f27 [.agg (editL x)] [] [] Q) = (
Rq (x.1 ≤ (1099511627776 : Int))
 (Rq ((↑x.2.length : Int) ≤ (1099511627776 : Int))
 (Rq ((plN x.1).size + (plN (↑x.2.length : Int)).size ≤ maxSl)
 (Gv (x.2.length ≤ maxSl)
 (Gv (x.2.length ≤ maxSl)
 (Rq
 ((↑x.2.length : Int) = (↑x.2.length : Int) ∧
 (0 : Int) = (0 : Int) ∧
 x.2.length ≤ (41 : Nat) ∧
 (plN x.1 ++ plN (↑x.2.length : Int)).size ≤ (14 : Nat) ∧
 ∀ (i : den Ty.int), i ∈ x.way → (0 : den Ty.int) ≤ i ∧ i ≤ (300 : den Ty.int))
 (Br (x.1 == (1 : Int))
 (Rq
 (bndNds [Nd.mk x.4.1 x.4.2 x.4.3 x.4.4 x.4.5 x.4.6] ∧
 [Nd.mk x.4.1 x.4.2 x.4.3 x.4.4 x.4.5 x.4.6].length ≤ (300 : Nat) ∧
 (bytesL [Nd.mk x.4.1 x.4.2 x.4.3 x.4.4 x.4.5 x.4.6]).length ≤ maxSl ∧
 ∃ d,
 ∀ (x_1 : Nd),
 x_1 ∈ [Nd.mk x.new.kind x.new.space x.new.name x.new.attrs x.new.text x.new.kids] →
 fitN d x_1)
 (Rq ((bk (bytesL [Nd.mk x.4.1 x.4.2 x.4.3 x.4.4 x.4.5 x.4.6])).size ≤ (1000000 : Nat))
 (Rq
 ((plN x.1 ++ plN (↑x.2.length : Int) ++ bk (wayL x.2)).size +
 (bk (txtL (kb (bk (bytesL [Nd.mk x.4.1 x.4.2 x.4.3 x.4.4 x.4.5 x.4.6]))))).size ≤
 maxSl)
 (Q
 [AV.str
 (plN x.1 ++ plN (↑x.2.length : Int) ++ bk (wayL x.2) ++
 bk (txtL (kb (bk (bytesL [Nd.mk x.4.1 x.4.2 x.4.3 x.4.4 x.4.5 x.4.6])))))]
 [] []))))
 (Br (x.1 == (2 : Int))
 (Rq
 (bndNds [Nd.mk x.3.1 x.3.2 x.3.3 x.3.4 x.3.5 x.3.6] ∧
 [Nd.mk x.3.1 x.3.2 x.3.3 x.3.4 x.3.5 x.3.6].length ≤ (300 : Nat) ∧
 (bytesL [Nd.mk x.3.1 x.3.2 x.3.3 x.3.4 x.3.5 x.3.6]).length ≤ maxSl ∧
 ∃ d,
 ∀ (x_1 : Nd),
 x_1 ∈ [Nd.mk x.old.kind x.old.space x.old.name x.old.attrs x.old.text x.old.kids] →
 fitN d x_1)
 (Rq ((bk (bytesL [Nd.mk x.3.1 x.3.2 x.3.3 x.3.4 x.3.5 x.3.6])).size ≤ (1000000 : Nat))
 (Rq
 ((plN x.1 ++ plN (↑x.2.length : Int) ++ bk (wayL x.2)).size +
 (bk (txtL (kb (bk (bytesL [Nd.mk x.3.1 x.3.2 x.3.3 x.3.4 x.3.5 x.3.6]))))).size ≤
 maxSl)
 (Q
 [AV.str
 (plN x.1 ++ plN (↑x.2.length : Int) ++ bk (wayL x.2) ++
 bk (txtL (kb (bk (bytesL [Nd.mk x.3.1 x.3.2 x.3.3 x.3.4 x.3.5 x.3.6])))))]
 [] []))))
 (Br (x.1 == (3 : Int))
 (Rq
 (x.3.4.length ≤ (500 : Nat) ∧
 ∀ (a : At), a ∈ x.old.attrs → a.name.size ≤ (65536 : Nat) ∧ a.value.size ≤ (65536 : Nat))
 (Rq
 ((plN x.1 ++ plN (↑x.2.length : Int) ++ bk (wayL x.2)).size + (bk (lstL (flA x.3.4))).size ≤
 maxSl)
 (Rq
 (x.4.4.length ≤ (500 : Nat) ∧
 ∀ (a : At),
 a ∈ x.new.attrs → a.name.size ≤ (65536 : Nat) ∧ a.value.size ≤ (65536 : Nat))
 (Rq
 ((plN x.1 ++ plN (↑x.2.length : Int) ++ bk (wayL x.2) ++ bk (lstL (flA x.3.4))).size +
 (bk (lstL (flA x.4.4))).size ≤
 maxSl)
 (Q
 [AV.str
 (plN x.1 ++ plN (↑x.2.length : Int) ++ bk (wayL x.2) ++ bk (lstL (flA x.3.4)) ++
 bk (lstL (flA x.4.4)))]
 [] [])))))
 (Rq (x.3.5.size ≤ (1000000 : Nat))
 (Rq
 ((plN x.1 ++ plN (↑x.2.length : Int) ++ bk (wayL x.2)).size + (bk (txtL (kb x.3.5))).size ≤ maxSl)
 (Rq (x.4.5.size ≤ (1000000 : Nat))
 (Rq
 ((plN x.1 ++ plN (↑x.2.length : Int) ++ bk (wayL x.2) ++ bk (txtL (kb x.3.5))).size +
 (bk (txtL (kb x.4.5))).size ≤
 maxSl)
 (Q
 [AV.str
 (plN x.1 ++ plN (↑x.2.length : Int) ++ bk (wayL x.2) ++ bk (txtL (kb x.3.5)) ++
 bk (txtL (kb x.4.5)))]
 [] [])))))))))))))) := by kernel_rfl
theorem vcB23B (o : ByteArray) (s : List Ed) (m i : Int) (K : Ex → List AV → List Blk → Prop) : (bodyA cxB23 (LL Tryz.f11 [lsB23]) Tryz.f11.ntmps (loopAt Tryz.f11 0).1 (loopAt Tryz.f11 0).2 lsB23.keep lsB23.left K [.str o, .row .redit s, .int .i64 m, .int .i64 i] []) = (
Br (decide (i < m))
 (Rq ((0 : Int) ≤ i ∧ i < (↑s.length : Int))
 (Br ((rd Ty.redit s i).1 == (1 : Int))
 (Rq
 (fineNds
 [Nd.mk (rd Ty.redit s i).4.1 (rd Ty.redit s i).4.2 (rd Ty.redit s i).4.3 (rd Ty.redit s i).4.4
 (rd Ty.redit s i).4.5 (rd Ty.redit s i).4.6] ∧
 checkS
 [Nd.mk (rd Ty.redit s i).4.1 (rd Ty.redit s i).4.2 (rd Ty.redit s i).4.3 (rd Ty.redit s i).4.4
 (rd Ty.redit s i).4.5 (rd Ty.redit s i).4.6] =
 (0 : Int))
 (Br
 (mchB
 (Nd.mk (rd Ty.redit s i).4.1 (rd Ty.redit s i).4.2 (rd Ty.redit s i).4.3 (rd Ty.redit s i).4.4
 (rd Ty.redit s i).4.5 (rd Ty.redit s i).4.6))
 (K Ex.ret [AV.str o, AV.str (ByteArray.mk (Array.mk [])), AV.int IntKind.i64 (2 : Int)] [])
 (Br ((rd Ty.redit s i).1 == (2 : Int))
 (Rq
 (fineNds
 [Nd.mk (rd Ty.redit s i).3.1 (rd Ty.redit s i).3.2 (rd Ty.redit s i).3.3 (rd Ty.redit s i).3.4
 (rd Ty.redit s i).3.5 (rd Ty.redit s i).3.6] ∧
 checkS
 [Nd.mk (rd Ty.redit s i).3.1 (rd Ty.redit s i).3.2 (rd Ty.redit s i).3.3 (rd Ty.redit s i).3.4
 (rd Ty.redit s i).3.5 (rd Ty.redit s i).3.6] =
 (0 : Int))
 (Br
 (mchB
 (Nd.mk (rd Ty.redit s i).3.1 (rd Ty.redit s i).3.2 (rd Ty.redit s i).3.3 (rd Ty.redit s i).3.4
 (rd Ty.redit s i).3.5 (rd Ty.redit s i).3.6))
 (K Ex.ret [AV.str o, AV.str (ByteArray.mk (Array.mk [])), AV.int IntKind.i64 (2 : Int)] [])
 (Rq
 (plainB
 (Ed.mk (rd Ty.redit s i).1 (rd Ty.redit s i).2
 (Nd.mk (rd Ty.redit s i).3.1 (rd Ty.redit s i).3.2 (rd Ty.redit s i).3.3 (rd Ty.redit s i).3.4
 (rd Ty.redit s i).3.5 (rd Ty.redit s i).3.6)
 (Nd.mk (rd Ty.redit s i).4.1 (rd Ty.redit s i).4.2 (rd Ty.redit s i).4.3 (rd Ty.redit s i).4.4
 (rd Ty.redit s i).4.5 (rd Ty.redit s i).4.6)) =
 true ∧
 wrE
 (Ed.mk (rd Ty.redit s i).1 (rd Ty.redit s i).2
 (Nd.mk (rd Ty.redit s i).3.1 (rd Ty.redit s i).3.2 (rd Ty.redit s i).3.3
 (rd Ty.redit s i).3.4 (rd Ty.redit s i).3.5 (rd Ty.redit s i).3.6)
 (Nd.mk (rd Ty.redit s i).4.1 (rd Ty.redit s i).4.2 (rd Ty.redit s i).4.3
 (rd Ty.redit s i).4.4 (rd Ty.redit s i).4.5 (rd Ty.redit s i).4.6)) =
 (0 : Int) ∧
 fineEd
 (Ed.mk (rd Ty.redit s i).1 (rd Ty.redit s i).2
 (Nd.mk (rd Ty.redit s i).3.1 (rd Ty.redit s i).3.2 (rd Ty.redit s i).3.3 (rd Ty.redit s i).3.4
 (rd Ty.redit s i).3.5 (rd Ty.redit s i).3.6)
 (Nd.mk (rd Ty.redit s i).4.1 (rd Ty.redit s i).4.2 (rd Ty.redit s i).4.3 (rd Ty.redit s i).4.4
 (rd Ty.redit s i).4.5 (rd Ty.redit s i).4.6)))
 (Rq
 (o.size +
 (bk
 (edL
 (Ed.mk (rd Ty.redit s i).1 (rd Ty.redit s i).2
 (Nd.mk (rd Ty.redit s i).3.1 (rd Ty.redit s i).3.2 (rd Ty.redit s i).3.3
 (rd Ty.redit s i).3.4 (rd Ty.redit s i).3.5 (rd Ty.redit s i).3.6)
 (Nd.mk (rd Ty.redit s i).4.1 (rd Ty.redit s i).4.2 (rd Ty.redit s i).4.3
 (rd Ty.redit s i).4.4 (rd Ty.redit s i).4.5 (rd Ty.redit s i).4.6)))).size ≤
 maxSl)
 (K Ex.norm
 [AV.str
 (o ++
 bk
 (edL
 (Ed.mk (rd Ty.redit s i).1 (rd Ty.redit s i).2
 (Nd.mk (rd Ty.redit s i).3.1 (rd Ty.redit s i).3.2 (rd Ty.redit s i).3.3
 (rd Ty.redit s i).3.4 (rd Ty.redit s i).3.5 (rd Ty.redit s i).3.6)
 (Nd.mk (rd Ty.redit s i).4.1 (rd Ty.redit s i).4.2 (rd Ty.redit s i).4.3
 (rd Ty.redit s i).4.4 (rd Ty.redit s i).4.5 (rd Ty.redit s i).4.6)))),
 AV.row Ty.redit s, AV.int IntKind.i64 m, AV.int IntKind.i64 (IntKind.i64.wrap (i + (1 : Int)))]
 [])))))
 (Rq
 (plainB
 (Ed.mk (rd Ty.redit s i).1 (rd Ty.redit s i).2
 (Nd.mk (rd Ty.redit s i).3.1 (rd Ty.redit s i).3.2 (rd Ty.redit s i).3.3 (rd Ty.redit s i).3.4
 (rd Ty.redit s i).3.5 (rd Ty.redit s i).3.6)
 (Nd.mk (rd Ty.redit s i).4.1 (rd Ty.redit s i).4.2 (rd Ty.redit s i).4.3 (rd Ty.redit s i).4.4
 (rd Ty.redit s i).4.5 (rd Ty.redit s i).4.6)) =
 true ∧
 wrE
 (Ed.mk (rd Ty.redit s i).1 (rd Ty.redit s i).2
 (Nd.mk (rd Ty.redit s i).3.1 (rd Ty.redit s i).3.2 (rd Ty.redit s i).3.3 (rd Ty.redit s i).3.4
 (rd Ty.redit s i).3.5 (rd Ty.redit s i).3.6)
 (Nd.mk (rd Ty.redit s i).4.1 (rd Ty.redit s i).4.2 (rd Ty.redit s i).4.3 (rd Ty.redit s i).4.4
 (rd Ty.redit s i).4.5 (rd Ty.redit s i).4.6)) =
 (0 : Int) ∧
 fineEd
 (Ed.mk (rd Ty.redit s i).1 (rd Ty.redit s i).2
 (Nd.mk (rd Ty.redit s i).3.1 (rd Ty.redit s i).3.2 (rd Ty.redit s i).3.3 (rd Ty.redit s i).3.4
 (rd Ty.redit s i).3.5 (rd Ty.redit s i).3.6)
 (Nd.mk (rd Ty.redit s i).4.1 (rd Ty.redit s i).4.2 (rd Ty.redit s i).4.3 (rd Ty.redit s i).4.4
 (rd Ty.redit s i).4.5 (rd Ty.redit s i).4.6)))
 (Rq
 (o.size +
 (bk
 (edL
 (Ed.mk (rd Ty.redit s i).1 (rd Ty.redit s i).2
 (Nd.mk (rd Ty.redit s i).3.1 (rd Ty.redit s i).3.2 (rd Ty.redit s i).3.3
 (rd Ty.redit s i).3.4 (rd Ty.redit s i).3.5 (rd Ty.redit s i).3.6)
 (Nd.mk (rd Ty.redit s i).4.1 (rd Ty.redit s i).4.2 (rd Ty.redit s i).4.3
 (rd Ty.redit s i).4.4 (rd Ty.redit s i).4.5 (rd Ty.redit s i).4.6)))).size ≤
 maxSl)
 (K Ex.norm
 [AV.str
 (o ++
 bk
 (edL
 (Ed.mk (rd Ty.redit s i).1 (rd Ty.redit s i).2
 (Nd.mk (rd Ty.redit s i).3.1 (rd Ty.redit s i).3.2 (rd Ty.redit s i).3.3
 (rd Ty.redit s i).3.4 (rd Ty.redit s i).3.5 (rd Ty.redit s i).3.6)
 (Nd.mk (rd Ty.redit s i).4.1 (rd Ty.redit s i).4.2 (rd Ty.redit s i).4.3
 (rd Ty.redit s i).4.4 (rd Ty.redit s i).4.5 (rd Ty.redit s i).4.6)))),
 AV.row Ty.redit s, AV.int IntKind.i64 m, AV.int IntKind.i64 (IntKind.i64.wrap (i + (1 : Int)))]
 []))))))
 (Br ((rd Ty.redit s i).1 == (2 : Int))
 (Rq
 (fineNds
 [Nd.mk (rd Ty.redit s i).3.1 (rd Ty.redit s i).3.2 (rd Ty.redit s i).3.3 (rd Ty.redit s i).3.4
 (rd Ty.redit s i).3.5 (rd Ty.redit s i).3.6] ∧
 checkS
 [Nd.mk (rd Ty.redit s i).3.1 (rd Ty.redit s i).3.2 (rd Ty.redit s i).3.3 (rd Ty.redit s i).3.4
 (rd Ty.redit s i).3.5 (rd Ty.redit s i).3.6] =
 (0 : Int))
 (Br
 (mchB
 (Nd.mk (rd Ty.redit s i).3.1 (rd Ty.redit s i).3.2 (rd Ty.redit s i).3.3 (rd Ty.redit s i).3.4
 (rd Ty.redit s i).3.5 (rd Ty.redit s i).3.6))
 (K Ex.ret [AV.str o, AV.str (ByteArray.mk (Array.mk [])), AV.int IntKind.i64 (2 : Int)] [])
 (Rq
 (plainB
 (Ed.mk (rd Ty.redit s i).1 (rd Ty.redit s i).2
 (Nd.mk (rd Ty.redit s i).3.1 (rd Ty.redit s i).3.2 (rd Ty.redit s i).3.3 (rd Ty.redit s i).3.4
 (rd Ty.redit s i).3.5 (rd Ty.redit s i).3.6)
 (Nd.mk (rd Ty.redit s i).4.1 (rd Ty.redit s i).4.2 (rd Ty.redit s i).4.3 (rd Ty.redit s i).4.4
 (rd Ty.redit s i).4.5 (rd Ty.redit s i).4.6)) =
 true ∧
 wrE
 (Ed.mk (rd Ty.redit s i).1 (rd Ty.redit s i).2
 (Nd.mk (rd Ty.redit s i).3.1 (rd Ty.redit s i).3.2 (rd Ty.redit s i).3.3 (rd Ty.redit s i).3.4
 (rd Ty.redit s i).3.5 (rd Ty.redit s i).3.6)
 (Nd.mk (rd Ty.redit s i).4.1 (rd Ty.redit s i).4.2 (rd Ty.redit s i).4.3 (rd Ty.redit s i).4.4
 (rd Ty.redit s i).4.5 (rd Ty.redit s i).4.6)) =
 (0 : Int) ∧
 fineEd
 (Ed.mk (rd Ty.redit s i).1 (rd Ty.redit s i).2
 (Nd.mk (rd Ty.redit s i).3.1 (rd Ty.redit s i).3.2 (rd Ty.redit s i).3.3 (rd Ty.redit s i).3.4
 (rd Ty.redit s i).3.5 (rd Ty.redit s i).3.6)
 (Nd.mk (rd Ty.redit s i).4.1 (rd Ty.redit s i).4.2 (rd Ty.redit s i).4.3 (rd Ty.redit s i).4.4
 (rd Ty.redit s i).4.5 (rd Ty.redit s i).4.6)))
 (Rq
 (o.size +
 (bk
 (edL
 (Ed.mk (rd Ty.redit s i).1 (rd Ty.redit s i).2
 (Nd.mk (rd Ty.redit s i).3.1 (rd Ty.redit s i).3.2 (rd Ty.redit s i).3.3
 (rd Ty.redit s i).3.4 (rd Ty.redit s i).3.5 (rd Ty.redit s i).3.6)
 (Nd.mk (rd Ty.redit s i).4.1 (rd Ty.redit s i).4.2 (rd Ty.redit s i).4.3
 (rd Ty.redit s i).4.4 (rd Ty.redit s i).4.5 (rd Ty.redit s i).4.6)))).size ≤
 maxSl)
 (K Ex.norm
 [AV.str
 (o ++
 bk
 (edL
 (Ed.mk (rd Ty.redit s i).1 (rd Ty.redit s i).2
 (Nd.mk (rd Ty.redit s i).3.1 (rd Ty.redit s i).3.2 (rd Ty.redit s i).3.3
 (rd Ty.redit s i).3.4 (rd Ty.redit s i).3.5 (rd Ty.redit s i).3.6)
 (Nd.mk (rd Ty.redit s i).4.1 (rd Ty.redit s i).4.2 (rd Ty.redit s i).4.3
 (rd Ty.redit s i).4.4 (rd Ty.redit s i).4.5 (rd Ty.redit s i).4.6)))),
 AV.row Ty.redit s, AV.int IntKind.i64 m, AV.int IntKind.i64 (IntKind.i64.wrap (i + (1 : Int)))]
 [])))))
 (Rq
 (plainB
 (Ed.mk (rd Ty.redit s i).1 (rd Ty.redit s i).2
 (Nd.mk (rd Ty.redit s i).3.1 (rd Ty.redit s i).3.2 (rd Ty.redit s i).3.3 (rd Ty.redit s i).3.4
 (rd Ty.redit s i).3.5 (rd Ty.redit s i).3.6)
 (Nd.mk (rd Ty.redit s i).4.1 (rd Ty.redit s i).4.2 (rd Ty.redit s i).4.3 (rd Ty.redit s i).4.4
 (rd Ty.redit s i).4.5 (rd Ty.redit s i).4.6)) =
 true ∧
 wrE
 (Ed.mk (rd Ty.redit s i).1 (rd Ty.redit s i).2
 (Nd.mk (rd Ty.redit s i).3.1 (rd Ty.redit s i).3.2 (rd Ty.redit s i).3.3 (rd Ty.redit s i).3.4
 (rd Ty.redit s i).3.5 (rd Ty.redit s i).3.6)
 (Nd.mk (rd Ty.redit s i).4.1 (rd Ty.redit s i).4.2 (rd Ty.redit s i).4.3 (rd Ty.redit s i).4.4
 (rd Ty.redit s i).4.5 (rd Ty.redit s i).4.6)) =
 (0 : Int) ∧
 fineEd
 (Ed.mk (rd Ty.redit s i).1 (rd Ty.redit s i).2
 (Nd.mk (rd Ty.redit s i).3.1 (rd Ty.redit s i).3.2 (rd Ty.redit s i).3.3 (rd Ty.redit s i).3.4
 (rd Ty.redit s i).3.5 (rd Ty.redit s i).3.6)
 (Nd.mk (rd Ty.redit s i).4.1 (rd Ty.redit s i).4.2 (rd Ty.redit s i).4.3 (rd Ty.redit s i).4.4
 (rd Ty.redit s i).4.5 (rd Ty.redit s i).4.6)))
 (Rq
 (o.size +
 (bk
 (edL
 (Ed.mk (rd Ty.redit s i).1 (rd Ty.redit s i).2
 (Nd.mk (rd Ty.redit s i).3.1 (rd Ty.redit s i).3.2 (rd Ty.redit s i).3.3 (rd Ty.redit s i).3.4
 (rd Ty.redit s i).3.5 (rd Ty.redit s i).3.6)
 (Nd.mk (rd Ty.redit s i).4.1 (rd Ty.redit s i).4.2 (rd Ty.redit s i).4.3 (rd Ty.redit s i).4.4
 (rd Ty.redit s i).4.5 (rd Ty.redit s i).4.6)))).size ≤
 maxSl)
 (K Ex.norm
 [AV.str
 (o ++
 bk
 (edL
 (Ed.mk (rd Ty.redit s i).1 (rd Ty.redit s i).2
 (Nd.mk (rd Ty.redit s i).3.1 (rd Ty.redit s i).3.2 (rd Ty.redit s i).3.3 (rd Ty.redit s i).3.4
 (rd Ty.redit s i).3.5 (rd Ty.redit s i).3.6)
 (Nd.mk (rd Ty.redit s i).4.1 (rd Ty.redit s i).4.2 (rd Ty.redit s i).4.3 (rd Ty.redit s i).4.4
 (rd Ty.redit s i).4.5 (rd Ty.redit s i).4.6)))),
 AV.row Ty.redit s, AV.int IntKind.i64 m, AV.int IntKind.i64 (IntKind.i64.wrap (i + (1 : Int)))]
 []))))))
 (K (Ex.exit (0 : Nat)) [AV.str o, AV.any, AV.any] [])) := by kernel_rfl
theorem vcB23F (s : List Ed) (Q : List AV → List Blk → List Blk → Prop) : (funA cxB23 (LL Tryz.f11 [lsB23]) Tryz.f11 [.row .redit s] [] [] Q) = (
Rq (fineEds s)
 (Br (dchkS s != (0 : Int)) (Q [AV.str (ByteArray.mk (Array.mk [])), AV.int IntKind.i64 (dchkS s)] [] [])
 (Rq ((↑s.length : Int) ≤ (1099511627776 : Int))
 (Gv (s.length ≤ maxSl)
 (Gv (s.length ≤ maxSl)
 (Rq
 ((↑s.length : Int) = (↑s.length : Int) ∧
 (0 : Int) = (0 : Int) ∧
 s.length ≤ (400 : Nat) ∧
 (plN (↑s.length : Int)).size ≤ (7 : Nat) ∧ ∀ (x : den Ty.redit), x ∈ s → plainB x = true ∧ fineEd x)
 (Br (dbE s == (0 : Int))
 (Q [AV.str (plN (↑s.length : Int) ++ bk (edsL s)), AV.int IntKind.i64 (0 : Int)] [] [])
 (Q [AV.str (ByteArray.mk (Array.mk [])), AV.int IntKind.i64 (2 : Int)] [] [])))))))) := by kernel_rfl
theorem vcRef23B (l s : List Ed) (m i : Int) (K : Ex → List AV → List Blk → Prop) : (bodyA cx0 (LL Tryz.f12 [lsRef23]) Tryz.f12.ntmps (loopAt Tryz.f12 0).1 (loopAt Tryz.f12 0).2 lsRef23.keep lsRef23.left K [.own 0 0, .row .edit s, .int .i64 m, .int .i64 i] [.rowb 0 .redit l]) = (
Br (decide (i < m))
 (Rq ((0 : Int) ≤ i ∧ i < (↑s.length : Int))
 (Rq
 ((l.length +
 [Ed.mk (rd Ty.edit s i).1 (rd Ty.edit s i).2
 (Nd.mk (rd Ty.edit s i).3.1 (rd Ty.edit s i).3.2 (rd Ty.edit s i).3.3 (rd Ty.edit s i).3.4
 (rd Ty.edit s i).3.5 (rd Ty.edit s i).3.6)
 (Nd.mk (rd Ty.edit s i).4.1 (rd Ty.edit s i).4.2 (rd Ty.edit s i).4.3 (rd Ty.edit s i).4.4
 (rd Ty.edit s i).4.5 (rd Ty.edit s i).4.6)].length) *
 (224 : Nat) ≤
 maxSl)
 (K Ex.norm
 [AV.own (0 : Nat) (0 : Nat), AV.row Ty.edit s, AV.int IntKind.i64 m,
 AV.int IntKind.i64 (IntKind.i64.wrap (i + (1 : Int)))]
 [Blk.rowb (0 : Nat) Ty.redit
 (l ++
 [Ed.mk (rd Ty.edit s i).1 (rd Ty.edit s i).2
 (Nd.mk (rd Ty.edit s i).3.1 (rd Ty.edit s i).3.2 (rd Ty.edit s i).3.3 (rd Ty.edit s i).3.4
 (rd Ty.edit s i).3.5 (rd Ty.edit s i).3.6)
 (Nd.mk (rd Ty.edit s i).4.1 (rd Ty.edit s i).4.2 (rd Ty.edit s i).4.3 (rd Ty.edit s i).4.4
 (rd Ty.edit s i).4.5 (rd Ty.edit s i).4.6)])])))
 (K (Ex.exit (0 : Nat)) [AV.own (0 : Nat) (0 : Nat)] [Blk.rowb (0 : Nat) Ty.redit l])) := by kernel_rfl
theorem vcRef23F (s : List Ed) (Q : List AV → List Blk → List Blk → Prop) : (funA cx0 (LL Tryz.f12 [lsRef23]) Tryz.f12 [.row .edit s] [] [.row .redit] Q) = (
Gv (s.length ≤ maxSl)
 (Rq
 ((↑s.length : Int) = (↑s.length : Int) ∧
 (0 : Int) = (0 : Int) ∧ (0 : Nat) = (0 : Nat) ∧ s.length * (224 : Nat) ≤ maxSl)
 (Q [AV.row Ty.redit s] [] []))) := by kernel_rfl
theorem vcDWritesF (s : List Ed) (Q : List AV → List Blk → List Blk → Prop) : (funA cxWD (LL Tryz.f3 []) Tryz.f3 [.row .edit s] [] [] Q) = (
Br (lngB s) (Q [AV.bool true] [] [])
 (Rq (fineEds s)
 (Rq (fineEds s)
 (Rq (s.length * (224 : Nat) ≤ maxSl)
 (Rq (fineEds s)
 (Rq (fineEds s)
 (Rq (s.length * (224 : Nat) ≤ maxSl)
 (Rq (fineEds s)
 (Br (dchkS s == dchkS s)
 (Br (eqS (dlyS s) (dlyS s))
 (Br (dlyE s == dlyE s)
 (Br ((↑(dlyS s).size : Int) == (↑(dlyS s).size : Int))
 (Br (dlyE s == dlyE s) (Gv ((dlyS s).size ≤ maxSl) (Q [AV.bool true] [] []))
 (Gv ((dlyS s).size ≤ maxSl) (Q [AV.bool false] [] [])))
 (Gv ((dlyS s).size ≤ maxSl) (Q [AV.bool false] [] [])))
 (Q [AV.bool false] [] []))
 (Q [AV.bool false] [] []))
 (Q [AV.bool false] [] [])))))))))) := by kernel_rfl
end Go.Proofs.YtnhipiedjekkpaaGreatDoor.AX
end
section
namespace Go.Proofs.YtnhipiedjekkpaaGreatDoor.AXP
open Go Go.Proofs.YtnhipiedjekkpaaGreatDoor.AX
theorem zero_eq (n : Nd) : zeroB n = eqNd n zN := by unfold zeroB; simp [eql]
theorem mch_of {n : Nd} (hc : checkS [n] = 0) : (mchB n = false → ndE n = 0) ∧ (mchB n = true → ndE n = 2) := by
  have hb : bytE [n] = if lonNds [n] = true then 2 else 0 := by unfold bytE; rw [if_pos hc]
  unfold mchB
  cases hl : lonNds [n] with
  | true =>
    rw [hl, if_pos rfl] at hb
    refine ⟨fun h => (nomatch h), fun _ => ?_⟩
    unfold ndE; rw [if_neg (by rw [hb]; decide), hb]
  | false =>
    rw [hl, if_neg (by decide)] at hb
    have hs := bytS_eq hb
    have hz : (bytS [n]).size = (bytesL [n]).length := by rw [hs, bk_size]
    unfold ndE
    rw [if_pos hb, Bool.false_or]
    refine ⟨fun h => ?_, fun h => ?_⟩
    · have := of_decide_eq_false h
      exact txtE_zero.2 (by omega)
    · have := of_decide_eq_true h
      unfold txtE; rw [if_neg (by omega)]
theorem wr_two {x : Ed} (hp : plainB x = true) : (wrE x = 0 ∨ wrE x = 2) := by
  obtain ⟨p, c1, c2⟩ := plain_ok hp
  have h0 := p.w0
  have h1 := p.w1
  unfold wrE
  by_cases k1 : x.what = 1
  · rw [if_pos k1]
    have := mch_of (c1 k1)
    cases hm : mchB x.new with
    | true => exact .inr (this.2 hm)
    | false => exact .inl (this.1 hm)
  rw [if_neg k1]
  by_cases k2 : x.what = 2
  · rw [if_pos k2]
    have := mch_of (c2 k2)
    cases hm : mchB x.old with
    | true => exact .inr (this.2 hm)
    | false => exact .inl (this.1 hm)
  rw [if_neg k2]
  by_cases k3 : x.what = 3
  · rw [if_pos k3]; exact .inl rfl
  rw [if_neg k3]
  exact .inl (txtE_zero.2 (p.txt (by omega)).2.2)
theorem db_two : ∀ {s : List Ed}, (∀ x ∈ s, plainB x = true) → dbE s = 0 ∨ dbE s = 2
  | [], _ => .inl rfl
  | x :: s, h => by
    rw [dbE]
    split
    · exact db_two fun y hy => h y (.tail _ hy)
    · rename_i hw
      rcases wr_two (h x (.head _)) with q | q
      · exact absurd q hw
      · exact .inr q
end Go.Proofs.YtnhipiedjekkpaaGreatDoor.AXP
namespace Go.Proofs.YtnhipiedjekkpaaGreatDoor.AX
open Go AXP
set_option maxRecDepth 100000
theorem rd_red {a : List Ed} {i : Nat} (h : i < a.length) : rd .redit a (i : Int) = a[i] := rd_get (t := .redit) h
theorem t23_holds : Holds 59 conT23 := conP_holds fun s => by
  rcases (show ∃ w : ByteArray, w = s from ⟨_, rfl⟩) with ⟨s, rfl⟩
  refine fun_meets0 (AllH.tok (.cons pl1_holds (by kernel_rfl) .nil)) [] (by kernel_rfl) (by kernel_rfl) fun hpre => Eq.mpr (vcT23F s _) ?_
  have hs : s.size ≤ 1000000 := hpre _ rfl
  have h7 := numL_le (n := s.size) (by omega)
  have hmx : maxSl = 140737488355328 := rfl
  have hz : (plN (s.size : Int)).size ≤ 7 := by rw [plN_eq, bk_size]; exact h7
  refine Rq.mk (by omega) (Rq.mk (by omega) ⟨fun _ => qfin rfl ?_ rfl rfl⟩)
  show [AV.str _] = [AV.str _]
  rw [txR_eq]
theorem l23_sum : SumOK cxL23 (LL Tryz.f60 [lsL23]) Tryz.f60.ntmps (loopAt Tryz.f60 0).1 (loopAt Tryz.f60 0).2 lsL23 := by
  intro vs bs K hs
  unfold lsL23 at hs
  simp only at hs
  split at hs
  case h_2 => exact hs.elim
  rename_i o l m i
  rcases (show ∃ w : List At, w = l from ⟨_, rfl⟩) with ⟨l, rfl⟩
  obtain ⟨⟨rfl, rfl, hl, ho, hb⟩, h⟩ := hs
  have hmx : maxSl = 140737488355328 := rfl
  have hj := jnT_le (flA l)
  rw [(jn_eq (jn_all (fl_all hb))).1, fl_len] at hj
  refine sum_rec (σ := Nat × ByteArray) (fun s => [.str s.2, .row .attr l, .int .i64 l.length, .int .i64 (s.1 : Nat)]) (fun _ => []) (fun s => s.1 ≤ l.length ∧ s.2 ++ bk (txsL (flA (l.drop s.1))) = o ++ bk (txsL (flA l))) (fun s => l.length - s.1) ?_ (0, o) ⟨Nat.zero_le _, rfl⟩
  rintro ⟨i, b⟩ ⟨hi, he⟩ R hR
  dsimp only at hi he hR ⊢
  have hz := congrArg ByteArray.size he
  rw [ByteArray.size_append, ByteArray.size_append, bk_size, bk_size] at hz
  refine Eq.mpr (vcL23B b l l.length i _) ⟨fun h1 => ?_, fun h1 => ?_⟩
  · have hlt : i < l.length := by have := of_decide_eq_true h1; omega
    rw [rd_at hlt]
    rw [List.drop_eq_getElem_cons hlt, flA, txsL, txsL] at he hz
    simp only [List.length_append] at hz
    obtain ⟨x1, x2⟩ := hb _ (List.getElem_mem hlt)
    rw [wrap_succ hlt (by omega)]
    refine Rq.mk ⟨by omega, by omega⟩ (Rq.mk (by show l[i].name.size ≤ _; omega) (Rq.mk ?_ (Rq.mk (by show l[i].value.size ≤ _; omega) (Rq.mk ?_ ?_))))
    · rw [bk_size]; show b.size + (txtL (kb l[i].name)).length ≤ _; omega
    · rw [ByteArray.size_append, bk_size, bk_size]; show b.size + (txtL (kb l[i].name)).length + (txtL (kb l[i].value)).length ≤ _; omega
    · refine hR (i + 1, b ++ bk (txtL (kb l[i].name)) ++ bk (txtL (kb l[i].value))) ⟨hlt, ?_⟩ (by dsimp only; omega)
      dsimp only
      rw [← he]
      apply kb_inj
      simp only [kb_app, kb_bk, List.append_assoc]
  · have hge : l.length ≤ i := by have := of_decide_eq_false h1; omega
    rw [List.drop_of_length_le hge] at he
    have : b = o ++ bk (txsL (flA l)) := by rw [← he]; apply kb_inj; rw [kb_app, kb_bk]; exact (List.append_nil _).symm
    rw [this]
    exact h
theorem l23_holds : Holds 60 conL23 := conP_holds fun l => by
  rcases (show ∃ w : List At, w = l from ⟨_, rfl⟩) with ⟨l, rfl⟩
  refine fun_meets1 (AllH.tok (.cons pl1_holds (by kernel_rfl) (.cons t23_holds (by kernel_rfl) .nil))) [] lsL23 (by kernel_rfl) (by kernel_rfl) l23_sum fun hpre => Eq.mpr (vcL23F l _) ?_
  obtain ⟨h1, h2⟩ := hpre _ rfl
  have ew : IntKind.i64.wrap ((2 : Int) * (l.length : Int)) = ((2 * l.length : Nat) : Int) := by rw [wrap_id'] <;> omega
  have h7 := numL_le (n := 2 * l.length) (by omega)
  rw [ew, plN_eq]
  refine Rq.mk (by omega) ⟨fun _ => ⟨fun _ => Rq.mk ⟨rfl, rfl, by omega, by rw [bk_size]; exact h7, h2⟩ (qfin rfl ?_ rfl rfl)⟩⟩
  show _ = [AV.str (bk (lstL (flA l)))]
  unfold lstL
  rw [fl_len, bk_app]
theorem z23_holds : Holds 64 conZeroD := conP_holds fun n => by
  rcases (show ∃ w : Nd, w = n from ⟨_, rfl⟩) with ⟨n, rfl⟩
  refine fun_meets0 (AllH.tok (.cons node_holds (by kernel_rfl) .nil)) [] (by kernel_rfl) (by kernel_rfl) fun _ => Eq.mpr (vcZ23F n _) ?_
  rw [nd_eta]
  refine qfin rfl ?_ rfl rfl
  show _ = [AV.bool (zeroB n)]
  rw [zero_eq]; rfl
theorem r23_holds : Holds 65 conRigD := conP_holds fun n => by
  rcases (show ∃ w : Nd, w = n from ⟨_, rfl⟩) with ⟨n, rfl⟩
  refine fun_meets0 (AllH.tok (.cons ck8_holds (by kernel_rfl) .nil)) [] (by kernel_rfl) (by kernel_rfl) fun hpre => Eq.mpr (vcR23F n _) ?_
  rw [nd_eta]
  exact Rq.mk (hpre _ rfl) (qfin rfl rfl rfl rfl)
theorem tokA23 : TOK cxA23 := AllH.tok (.cons z23_holds (by kernel_rfl) .nil)
theorem a23_sum : SumOK cxA23 (LL Tryz.f66 [lsA23]) Tryz.f66.ntmps (loopAt Tryz.f66 0).1 (loopAt Tryz.f66 0).2 lsA23 := by
  intro vs bs K hs
  unfold lsA23 at hs
  simp only at hs
  split at hs
  case h_2 => exact hs.elim
  rename_i a m i c0 c1 c2 c3 c4 c5
  rcases (show ∃ w : List At, w = a from ⟨_, rfl⟩) with ⟨a, rfl⟩
  obtain ⟨⟨rfl, rfl, hm⟩, h⟩ := hs
  refine sum_rec (σ := Nat) (fun i => [.ptr 0 0, .row .attr a, .int .i64 a.length, .int .i64 (i : Nat)]) (fun _ => [.box (nodeL ⟨c0, c1, c2, c3, c4, c5⟩)]) (fun i => i ≤ a.length ∧ (a.drop i).any longA = a.any longA) (fun i => a.length - i) ?_ 0 ⟨Nat.zero_le _, rfl⟩
  rintro i ⟨hi, ha⟩ R hR
  refine Eq.mpr (vcA23B ⟨c0, c1, c2, c3, c4, c5⟩ a a.length i _) ⟨fun h1 => ?_, fun h1 => ?_⟩
  · have hlt : i < a.length := by have := of_decide_eq_true h1; omega
    rw [rd_at hlt, wrap_succ hlt hm]
    rw [List.drop_eq_getElem_cons hlt, List.any_cons] at ha
    have hL : longA a[i] = (bigB a[i].name || bigB a[i].value) := rfl
    refine Rq.mk ⟨by omega, by omega⟩ ⟨fun h2 => ⟨fun _ => h.yes ?_⟩, fun h2 => ⟨fun _ => ⟨fun _ => ⟨fun h3 => h.yes ?_, fun h3 => hR (i + 1) ⟨hlt, ?_⟩ (by omega)⟩⟩⟩⟩
    · rw [hL, show bigB a[i].name = true from h2, Bool.true_or, Bool.true_or] at ha; exact ha.symm
    · rw [hL, show bigB a[i].value = true from h3, Bool.or_true, Bool.true_or] at ha; exact ha.symm
    · rw [hL, show bigB a[i].name = false from h2, show bigB a[i].value = false from h3] at ha; exact ha
  · have hge : a.length ≤ i := by have := of_decide_eq_false h1; omega
    rw [List.drop_of_length_le hge] at ha
    exact h.no ha.symm
theorem a23_holds : Holds 66 conAtsD := conP_holds fun n => by
  rcases (show ∃ w : Nd, w = n from ⟨_, rfl⟩) with ⟨n, rfl⟩
  refine fun_meets1 tokA23 [] lsA23 (by kernel_rfl) (by kernel_rfl) a23_sum fun _ => Eq.mpr (vcA23F n _) ?_
  have e : (decide ((n.attrs.length : Int) ≤ 12)) = (decide ((n.attrs.length : Int) < 13)) := by
    rw [Bool.eq_iff_iff, decide_eq_true_eq, decide_eq_true_eq]; omega
  refine ⟨fun hm => Rq.mk ⟨rfl, rfl, hm⟩ ⟨fun h1 => qfin rfl ?_ rfl rfl, fun h1 => ⟨fun h2 => ⟨fun _ => qfin rfl ?_ rfl rfl⟩, fun h2 => ⟨fun _ => qfin rfl ?_ rfl rfl⟩⟩⟩⟩ <;> show [AV.bool _] = [AV.bool (atsB n)] <;> unfold atsB
  · rw [show n.attrs.any longA = true from h1]; simp
  · rw [e, show decide ((n.attrs.length : Int) < 13) = true from h2, show n.attrs.any longA = false from h1]; simp
  · rw [e, show decide ((n.attrs.length : Int) < 13) = false from h2]; simp
theorem w23_holds : Holds 67 conWdsD := conP_holds fun n => by
  rcases (show ∃ w : Nd, w = n from ⟨_, rfl⟩) with ⟨n, rfl⟩
  refine fun_meets0 tokA23 [] (by kernel_rfl) (by kernel_rfl) fun _ => Eq.mpr (vcW23F n _) ?_
  have e : (!bigB n.text) = decide ((n.text.size : Int) ≤ 65536) := by
    unfold bigB
    rw [Bool.eq_iff_iff, Bool.not_eq_true', decide_eq_false_iff_not, decide_eq_true_eq]; omega
  refine ⟨fun h1 => ⟨fun _ => qfin rfl ?_ rfl rfl⟩, fun h1 => ⟨fun _ => qfin rfl ?_ rfl rfl⟩⟩ <;> show [AV.bool _] = [AV.bool (wdsB n)] <;> unfold wdsB <;> rw [e]
  · rw [show decide ((n.text.size : Int) ≤ 65536) = true from h1, Bool.and_true]
  · rw [show decide ((n.text.size : Int) ≤ 65536) = false from h1, Bool.and_false]
theorem tokP23 : TOK cxP23 := AllH.tok (.cons z23_holds (by kernel_rfl) (.cons r23_holds (by kernel_rfl) (.cons a23_holds (by kernel_rfl) (.cons w23_holds (by kernel_rfl) .nil))))
theorem p23_sum : SumOK cxP23 (LL Tryz.f31 [lsP23]) Tryz.f31.ntmps (loopAt Tryz.f31 0).1 (loopAt Tryz.f31 0).2 lsP23 := by
  intro vs bs K hs
  unfold lsP23 at hs
  simp only at hs
  split at hs
  case h_2 => exact hs.elim
  rename_i w m i k v o0 o1 o2 o3 o4 o5 n0 n1 n2 n3 n4 n5
  rcases (show ∃ z : List Int, z = w from ⟨_, rfl⟩) with ⟨w, rfl⟩
  obtain ⟨⟨rfl, rfl, hm⟩, h⟩ := hs
  refine sum_rec (σ := Nat) (fun i => [.ptr 0 0, .row .int w, .int .i64 w.length, .int .i64 (i : Nat)]) (fun _ => [.box (editL ⟨k, v, ⟨o0, o1, o2, o3, o4, o5⟩, ⟨n0, n1, n2, n3, n4, n5⟩⟩)]) (fun i => i ≤ w.length ∧ (w.drop i).any oddI = w.any oddI) (fun i => w.length - i) ?_ 0 ⟨Nat.zero_le _, rfl⟩
  rintro i ⟨hi, ha⟩ R hR
  refine Eq.mpr (vcP23B ⟨k, v, ⟨o0, o1, o2, o3, o4, o5⟩, ⟨n0, n1, n2, n3, n4, n5⟩⟩ w w.length i _) ⟨fun h1 => ?_, fun h1 => ?_⟩
  · have hlt : i < w.length := by have := of_decide_eq_true h1; omega
    have hg : rd .int w (i : Int) = w[i] := rd_get (t := .int) hlt
    rw [hg, wrap_succ hlt hm]
    rw [List.drop_eq_getElem_cons hlt, List.any_cons] at ha
    have hL : oddI w[i] = (decide (w[i] < 0) || decide (w[i] > 300)) := rfl
    refine Rq.mk ⟨by omega, by omega⟩ ⟨fun h2 => h.yes ?_, fun h2 => ⟨fun h3 => h.yes ?_, fun h3 => hR (i + 1) ⟨hlt, ?_⟩ (by omega)⟩⟩
    · rw [hL, h2, Bool.true_or, Bool.true_or] at ha; exact ha.symm
    · rw [hL, h3, Bool.or_true, Bool.true_or] at ha; exact ha.symm
    · rw [hL, h2, h3] at ha; exact ha
  · have hge : w.length ≤ i := by have := of_decide_eq_false h1; omega
    rw [List.drop_of_length_le hge] at ha
    exact h.no ha.symm
theorem p23_holds : Holds 31 conP23 := conP_holds fun x => by
  rcases (show ∃ w : Ed, w = x from ⟨_, rfl⟩) with ⟨x, rfl⟩
  refine fun_meets1 tokP23 [] lsP23 (by kernel_rfl) (by kernel_rfl) p23_sum fun hpre => Eq.mpr (vcP23F x _) ?_
  have hf : fineEd x := hpre _ rfl
  have fin : ∀ b, plainB x = b → FinQ { pre := some (fineEd x), res := .bool (plainB x) } [AV.bool b] [] [] := fun b h => qfin rfl (by rw [h]; rfl) rfl rfl
  simp only [nd_eta]
  refine ⟨fun hm => Rq.mk ⟨by trivial, by trivial, hm⟩ ⟨fun h1 => fin _ ?_, fun h1 => ⟨fun h2 => ⟨fun _ => fin _ ?_⟩, fun h2 => ⟨fun _ => ⟨fun _ => ⟨fun h3 => fin _ ?_, fun h3 => ?_⟩⟩⟩⟩⟩⟩
  · unfold plainB; rw [show x.way.any oddI = true from h1]; simp
  · have h2 := of_decide_eq_true h2
    unfold plainB; rw [decide_eq_false (show ¬ (x.way.length : Int) > 0 by omega)]; simp
  · have h3 := of_decide_eq_true h3
    unfold plainB; rw [decide_eq_false (show ¬ (x.way.length : Int) ≤ 41 by omega)]; simp
  have h2 := of_decide_eq_false h2
  have h3 := of_decide_eq_false h3
  have hpl : ∀ b, (decide (1 ≤ x.what ∧ x.what ≤ 4) && partB x) = b → plainB x = b := fun b hb => by
    unfold plainB
    rw [decide_eq_true (show (x.way.length : Int) > 0 by omega), decide_eq_true (show (x.way.length : Int) ≤ 41 by omega), show x.way.any oddI = false from h1]
    simp only [Bool.and_true, Bool.not_false]
    exact hb
  have part : ∀ b, (1 ≤ x.what ∧ x.what ≤ 4) → partB x = b → plainB x = b := fun b hk hb => hpl b (by rw [decide_eq_true hk, Bool.true_and, hb])
  refine ⟨fun k1 => ?_, fun k1 => ⟨fun k2 => ?_, fun k2 => ⟨fun k3 => ?_, fun k3 => ⟨fun k4 => ?_, fun k4 => fin _ (hpl _ ?_)⟩⟩⟩⟩
  · have k1 : x.what = 1 := by simpa using k1
    have hp : partB x = (zeroB x.old && rig1 x.new) := by unfold partB; rw [if_pos k1]
    refine ⟨fun h4 => Rq.mk (hf.1 k1) (fin _ (part _ (by omega) ?_)), fun h4 => fin _ (part _ (by omega) ?_)⟩ <;> rw [hp, h4] <;> rfl
  · have k1 : ¬ x.what = 1 := by simpa using k1
    have k2 : x.what = 2 := by simpa using k2
    have hp : partB x = (zeroB x.new && rig1 x.old) := by unfold partB; rw [if_neg k1, if_pos k2]
    refine Rq.mk (hf.2 k2) ⟨fun h4 => fin _ (part _ (by omega) ?_), fun h4 => fin _ (part _ (by omega) ?_)⟩ <;> rw [hp, h4]
    · rw [Bool.and_true]
    · rw [Bool.and_false]
  · have k1 : ¬ x.what = 1 := by simpa using k1
    have k2 : ¬ x.what = 2 := by simpa using k2
    have k3 : x.what = 3 := by simpa using k3
    have hp : partB x = (atsB x.old && atsB x.new) := by unfold partB; rw [if_neg k1, if_neg k2, if_pos k3]
    refine ⟨fun h4 => fin _ (part _ (by omega) ?_), fun h4 => fin _ (part _ (by omega) ?_)⟩ <;> rw [hp, h4] <;> rfl
  · have k1 : ¬ x.what = 1 := by simpa using k1
    have k2 : ¬ x.what = 2 := by simpa using k2
    have k3 : ¬ x.what = 3 := by simpa using k3
    have k4 : x.what = 4 := by simpa using k4
    have hp : partB x = (wdsB x.old && wdsB x.new) := by unfold partB; rw [if_neg k1, if_neg k2, if_neg k3, if_pos k4]
    refine ⟨fun h4 => fin _ (part _ (by omega) ?_), fun h4 => fin _ (part _ (by omega) ?_)⟩ <;> rw [hp, h4] <;> rfl
  · have k1 : ¬ x.what = 1 := by simpa using k1
    have k2 : ¬ x.what = 2 := by simpa using k2
    have k3 : ¬ x.what = 3 := by simpa using k3
    have k4 : ¬ x.what = 4 := by simpa using k4
    rw [decide_eq_false (show ¬ (1 ≤ x.what ∧ x.what ≤ 4) by omega)]; rfl
theorem c23_sum : SumOK cxC23 (LL Tryz.f14 [lsC23]) Tryz.f14.ntmps (loopAt Tryz.f14 0).1 (loopAt Tryz.f14 0).2 lsC23 := by
  intro vs bs K hs
  unfold lsC23 at hs
  simp only at hs
  split at hs
  case h_2 => exact hs.elim
  rename_i s m i
  rcases (show ∃ w : List Ed, w = s from ⟨_, rfl⟩) with ⟨s, rfl⟩
  obtain ⟨⟨rfl, rfl, hm, hf⟩, h⟩ := hs
  refine sum_rec (σ := Nat) (fun i => [.row .redit s, .int .i64 s.length, .int .i64 (i : Nat)]) (fun _ => []) (fun i => i ≤ s.length ∧ (s.drop i).any npB = s.any npB) (fun i => s.length - i) ?_ 0 ⟨Nat.zero_le _, rfl⟩
  rintro i ⟨hi, ha⟩ R hR
  refine Eq.mpr (vcC23B s s.length i _) ⟨fun h1 => ?_, fun h1 => ?_⟩
  · have hlt : i < s.length := by have := of_decide_eq_true h1; omega
    rw [rd_red hlt, ed_eta, wrap_succ hlt hm]
    rw [List.drop_eq_getElem_cons hlt, List.any_cons] at ha
    refine Rq.mk ⟨by omega, by omega⟩ (Rq.mk (hf _ (List.getElem_mem hlt)) ⟨fun h2 => h.yes ?_, fun h2 => hR (i + 1) ⟨hlt, ?_⟩ (by omega)⟩)
    · rw [show npB s[i] = true from h2, Bool.true_or] at ha; exact ha.symm
    · rw [show npB s[i] = false from h2, Bool.false_or] at ha; exact ha
  · have hge : s.length ≤ i := by have := of_decide_eq_false h1; omega
    rw [List.drop_of_length_le hge] at ha
    exact h.no ha.symm
theorem c23_holds : Holds 14 conC23 := conP_holds fun s => by
  rcases (show ∃ w : List Ed, w = s from ⟨_, rfl⟩) with ⟨s, rfl⟩
  refine fun_meets1 (AllH.tok (.cons p23_holds (by kernel_rfl) .nil)) [] lsC23 (by kernel_rfl) (by kernel_rfl) c23_sum fun hpre => Eq.mpr (vcC23F s _) ?_
  refine ⟨fun hm => ⟨fun h1 => qfin rfl ?_ rfl rfl, fun h1 => ⟨fun _ => Rq.mk ⟨rfl, rfl, hm, hpre _ rfl⟩ ⟨fun h2 => qfin rfl ?_ rfl rfl, fun h2 => qfin rfl ?_ rfl rfl⟩⟩⟩⟩ <;> show [AV.int .i64 _] = [AV.int .i64 (dchkS s)] <;> unfold dchkS
  · rw [if_pos (of_decide_eq_true h1)]
  · rw [if_neg (of_decide_eq_false h1), if_pos h2]
  · rw [if_neg (of_decide_eq_false h1), if_neg (by rw [h2]; decide)]
theorem pn_pre {n : Nd} (hf : fineNds [n]) (hc : checkS [n] = 0) (hl : lonNds [n] = false) : bndNds [n] ∧ [n].length ≤ 300 ∧ (bytesL [n]).length ≤ maxSl ∧ ∃ d, ∀ x ∈ [n], fitN d x := by
  have hb : bytE [n] = 0 := by unfold bytE; rw [if_pos hc, if_neg (by rw [hl]; decide)]
  obtain ⟨f1, f2⟩ := fit_all hb
  have hs := fine_put hf
  have hq : putF ⟨#[]⟩ [n] = bk (bytesL [n]) := by rw [← bytS_eq hb]; unfold bytS; rw [if_pos hb]
  rw [hq, bk_size] at hs
  exact ⟨hf.2, f1, hs, 40, f2⟩
theorem m23_holds : Holds 26 conM23 := conP_holds fun n => by
  rcases (show ∃ w : Nd, w = n from ⟨_, rfl⟩) with ⟨n, rfl⟩
  refine fun_meets0 (AllH.tok (.cons lo8_holds (by kernel_rfl) (.cons pn8_holds (by kernel_rfl) .nil))) [] (by kernel_rfl) (by kernel_rfl) fun hpre => Eq.mpr (vcM23F n _) ?_
  obtain ⟨hf, hc⟩ := hpre _ rfl
  rw [nd_eta]
  refine ⟨fun h => qfin rfl ?_ rfl rfl, fun h => Rq.mk (pn_pre hf hc h) ⟨fun _ => qfin rfl ?_ rfl rfl⟩⟩ <;> show [AV.bool _] = [AV.bool (mchB n)] <;> unfold mchB
  · rw [h]; rfl
  · rw [h, bk_size]; rfl
theorem o23_sum : SumOK cxO23 (LL Tryz.f27 [lsO23]) Tryz.f27.ntmps (loopAt Tryz.f27 0).1 (loopAt Tryz.f27 0).2 lsO23 := by
  intro vs bs K hs
  unfold lsO23 at hs
  simp only at hs
  split at hs
  case h_2 => exact hs.elim
  rename_i o w m i k v o0 o1 o2 o3 o4 o5 n0 n1 n2 n3 n4 n5
  rcases (show ∃ z : List Int, z = w from ⟨_, rfl⟩) with ⟨w, rfl⟩
  obtain ⟨⟨rfl, rfl, hl, ho, hw⟩, h⟩ := hs
  have hmx : maxSl = 140737488355328 := rfl
  have hwl := wayL_le hw
  refine sum_rec (σ := Nat × ByteArray) (fun q => [.ptr 0 0, .str q.2, .row .int w, .int .i64 w.length, .int .i64 (q.1 : Nat)]) (fun _ => [.box (editL ⟨k, v, ⟨o0, o1, o2, o3, o4, o5⟩, ⟨n0, n1, n2, n3, n4, n5⟩⟩)]) (fun q => q.1 ≤ w.length ∧ q.2 ++ bk (wayL (w.drop q.1)) = o ++ bk (wayL w)) (fun q => w.length - q.1) ?_ (0, o) ⟨Nat.zero_le _, rfl⟩
  rintro ⟨i, c⟩ ⟨hi, he⟩ R hR
  dsimp only at hi he hR ⊢
  refine Eq.mpr (vcO23B ⟨k, v, ⟨o0, o1, o2, o3, o4, o5⟩, ⟨n0, n1, n2, n3, n4, n5⟩⟩ c w w.length i _) ⟨fun h1 => ?_, fun h1 => ?_⟩
  · have hlt : i < w.length := by have := of_decide_eq_true h1; omega
    have hg : rd .int w (i : Int) = w[i] := rd_get (t := .int) hlt
    rw [hg]
    have hx : (0 : Int) ≤ w[i] ∧ w[i] ≤ 300 := hw _ (List.getElem_mem hlt)
    rw [List.drop_eq_getElem_cons hlt, wayL] at he
    have e : plN w[i] = bk (numL w[i].toNat) := rfl
    have hz := congrArg ByteArray.size he
    rw [ByteArray.size_append, ByteArray.size_append, bk_size, bk_size, List.length_append] at hz
    rw [e, wrap_succ hlt (by omega)]
    refine Rq.mk ⟨by omega, by omega⟩ (Rq.mk (Int.le_trans hx.2 (by decide)) (Rq.mk (by rw [bk_size]; omega) ?_))
    refine hR (i + 1, c ++ bk (numL w[i].toNat)) ⟨hlt, ?_⟩ (by dsimp only; omega)
    dsimp only
    rw [← he]
    apply kb_inj
    simp only [kb_app, kb_bk, List.append_assoc]
  · have hge : w.length ≤ i := by have := of_decide_eq_false h1; omega
    rw [List.drop_of_length_le hge] at he
    have : c = o ++ bk (wayL w) := by rw [← he]; apply kb_inj; rw [kb_app, kb_bk]; exact (List.append_nil _).symm
    rw [this]
    exact h
theorem o23_holds : Holds 27 conO23 := conP_holds fun x => by
  rcases (show ∃ w : Ed, w = x from ⟨_, rfl⟩) with ⟨x, rfl⟩
  refine fun_meets1 (AllH.tok (.cons pl1_holds (by kernel_rfl) (.cons pn8_holds (by kernel_rfl) (.cons t23_holds (by kernel_rfl) (.cons l23_holds (by kernel_rfl) .nil))))) [] lsO23 (by kernel_rfl) (by kernel_rfl) o23_sum fun hpre => Eq.mpr (vcO23F x _) ?_
  obtain ⟨hp, hw, hf⟩ := hpre _ rfl
  obtain ⟨P, c1, c2⟩ := plain_ok hp
  obtain ⟨wr, _, hbl⟩ := wr_ok hp hw
  have w0 := P.w0
  have w1 := P.w1
  have n1 := P.n1
  have hmx : maxSl = 140737488355328 := rfl
  have l1 := numL_le (n := x.what.toNat) (by omega)
  have l2 := numL_le (n := x.way.length) (by omega)
  have l3 := wayL_le P.at_
  have q1 : plN x.what = bk (numL x.what.toNat) := rfl
  have q2 : plN (x.way.length : Int) = bk (numL x.way.length) := plN_eq _
  have fin : ∀ b : List UInt8, bodyL x = b → ∀ t, t = bk (numL x.what.toNat) ++ bk (numL x.way.length) ++ bk (wayL x.way) ++ bk b → FinQ { pre := some (plainB x = true ∧ wrE x = 0 ∧ fineEd x), res := .str (bk (edL x)) } [AV.str t] [] [] := fun b hb t ht => by
    refine qfin rfl ?_ rfl rfl
    show [AV.str t] = [AV.str (bk (edL x))]
    rw [ht]
    unfold edL
    rw [hb]
    congr 2
    apply kb_inj
    simp only [kb_app, kb_bk, List.append_assoc]
  have bd : bodyL x = bodyL x := rfl
  have hl : x.2.length ≤ 41 := n1
  simp only [nd_eta]
  have r1 : plN x.1 = bk (numL x.what.toNat) := rfl
  have r2 : plN (x.2.length : Int) = bk (numL x.way.length) := plN_eq _
  rw [r1, r2]
  have sz : (bk (numL x.what.toNat) ++ bk (numL x.way.length) ++ bk (wayL x.2)).size ≤ 400 := by
    simp only [ByteArray.size_append, bk_size]
    show (numL x.what.toNat).length + (numL x.way.length).length + (wayL x.way).length ≤ 400
    omega
  refine Rq.mk (by show x.what ≤ _; omega) (Rq.mk (by omega) (Rq.mk (by rw [bk_size, bk_size]; omega) ⟨fun _ => ⟨fun _ => Rq.mk ⟨by trivial, by trivial, hl, by rw [ByteArray.size_append, bk_size, bk_size]; omega, P.at_⟩ ?_⟩⟩))
  refine ⟨fun k1 => ?_, fun k1 => ⟨fun k2 => ?_, fun k2 => ⟨fun k3 => ?_, fun k3 => ?_⟩⟩⟩
  · have k1 : x.what = 1 := by simpa using k1
    obtain ⟨b1, b2⟩ := wr.1 k1
    have hs := bytS_eq b1
    have hz : (bytesL [x.new]).length ≤ 65536 := by rw [hs, bk_size] at b2; exact b2
    have hb : bodyL x = txtL (bytesL [x.new]) := by unfold bodyL; rw [if_pos k1, hs, kb_bk]
    have ht := hbl
    rw [hb] at ht
    refine Rq.mk (pn_pre (hf.1 k1) (c1 k1) (bytE_zero b1).2) (Rq.mk (by rw [bk_size]; show (bytesL [x.new]).length ≤ _; omega) (Rq.mk (by rw [kb_bk, bk_size]; show _ + (txtL (bytesL [x.new])).length ≤ _; omega) (fin _ hb _ ?_)))
    rw [kb_bk]
  · have k1 : ¬ x.what = 1 := by simpa using k1
    have k2 : x.what = 2 := by simpa using k2
    obtain ⟨b1, b2⟩ := wr.2 k2
    have hs := bytS_eq b1
    have hz : (bytesL [x.old]).length ≤ 65536 := by rw [hs, bk_size] at b2; exact b2
    have hb : bodyL x = txtL (bytesL [x.old]) := by unfold bodyL; rw [if_neg k1, if_pos k2, hs, kb_bk]
    have ht := hbl
    rw [hb] at ht
    refine Rq.mk (pn_pre (hf.2 k2) (c2 k2) (bytE_zero b1).2) (Rq.mk (by rw [bk_size]; show (bytesL [x.old]).length ≤ _; omega) (Rq.mk (by rw [kb_bk, bk_size]; show _ + (txtL (bytesL [x.old])).length ≤ _; omega) (fin _ hb _ ?_)))
    rw [kb_bk]
  · have k1 : ¬ x.what = 1 := by simpa using k1
    have k2 : ¬ x.what = 2 := by simpa using k2
    have k3 : x.what = 3 := by simpa using k3
    obtain ⟨⟨_, a1, a2⟩, _, b1, b2⟩ := P.att k3
    have hb : bodyL x = lstL (flA x.old.attrs) ++ lstL (flA x.new.attrs) := by unfold bodyL; rw [if_neg k1, if_neg k2, if_pos k3]
    have ht := hbl
    rw [hb, List.length_append] at ht
    refine Rq.mk ⟨Nat.le_trans a1 (by decide), a2⟩ (Rq.mk (by rw [bk_size]; show _ + (lstL (flA x.old.attrs)).length ≤ _; omega) (Rq.mk ⟨Nat.le_trans b1 (by decide), b2⟩ (Rq.mk ?_ (fin _ hb _ ?_))))
    · rw [ByteArray.size_append, bk_size, bk_size]; show _ + (lstL (flA x.old.attrs)).length + (lstL (flA x.new.attrs)).length ≤ _; omega
    · apply kb_inj
      simp only [kb_app, kb_bk, List.append_assoc]
  · have k1 : ¬ x.what = 1 := by simpa using k1
    have k2 : ¬ x.what = 2 := by simpa using k2
    have k3 : ¬ x.what = 3 := by simpa using k3
    obtain ⟨⟨_, a1⟩, _, b1⟩ := P.txt (by omega)
    have hb : bodyL x = txtL (kb x.old.text) ++ txtL (kb x.new.text) := by unfold bodyL; rw [if_neg k1, if_neg k2, if_neg k3, if_pos (show x.what = 4 by omega)]
    have ht := hbl
    rw [hb, List.length_append] at ht
    refine Rq.mk (Nat.le_trans a1 (by decide)) (Rq.mk (by rw [bk_size]; show _ + (txtL (kb x.old.text)).length ≤ _; omega) (Rq.mk (Nat.le_trans b1 (by decide)) (Rq.mk ?_ (fin _ hb _ ?_))))
    · rw [ByteArray.size_append, bk_size, bk_size]; show _ + (txtL (kb x.old.text)).length + (txtL (kb x.new.text)).length ≤ _; omega
    · apply kb_inj
      simp only [kb_app, kb_bk, List.append_assoc]
theorem tokB23 : TOK cxB23 := AllH.tok (.cons c23_holds (by kernel_rfl) (.cons pl1_holds (by kernel_rfl) (.cons m23_holds (by kernel_rfl) (.cons o23_holds (by kernel_rfl) .nil))))
theorem b23_sum : SumOK cxB23 (LL Tryz.f11 [lsB23]) Tryz.f11.ntmps (loopAt Tryz.f11 0).1 (loopAt Tryz.f11 0).2 lsB23 := by
  intro vs bs K hs
  unfold lsB23 at hs
  simp only at hs
  split at hs
  case h_2 => exact hs.elim
  rename_i o s m i
  rcases (show ∃ v : List Ed, v = s from ⟨_, rfl⟩) with ⟨s, rfl⟩
  obtain ⟨⟨rfl, rfl, hl, ho, hp⟩, h⟩ := hs
  have hmx : maxSl = 140737488355328 := rfl
  have hpf := pfx_le fun x hx => (hp x hx).1
  refine sum_rec (σ := Nat × ByteArray) (fun x => [.str x.2, .row .redit s, .int .i64 s.length, .int .i64 (x.1 : Nat)]) (fun _ => []) (fun x => x.1 ≤ s.length ∧ x.2 ++ bk (pfx (s.drop x.1)) = o ++ bk (pfx s) ∧ dbE (s.drop x.1) = dbE s) (fun x => s.length - x.1) ?_ (0, o) ⟨Nat.zero_le _, rfl, rfl⟩
  rintro ⟨i, c⟩ ⟨hi, he, hd⟩ R hR
  dsimp only at hi he hd hR ⊢
  refine Eq.mpr (vcB23B c s s.length i _) ⟨fun h1 => ?_, fun h1 => ?_⟩
  · have hlt : i < s.length := by have := of_decide_eq_true h1; omega
    obtain ⟨hpl, hfi⟩ := hp _ (List.getElem_mem hlt)
    obtain ⟨P, c1, c2⟩ := plain_ok hpl
    have w0 := P.w0
    have w1 := P.w1
    rw [List.drop_eq_getElem_cons hlt, pfx] at he
    rw [List.drop_eq_getElem_cons hlt, dbE] at hd
    have bad : wrE s[i] = 2 → K .ret [.str c, .str ⟨#[]⟩, .int .i64 2] [] := fun hw => by
      rw [if_neg (by rw [hw]; decide)] at he hd
      have : c = o ++ bk (pfx s) := by rw [← he]; apply kb_inj; rw [kb_app, kb_bk]; exact (List.append_nil _).symm
      rw [this]
      exact h.no (by rw [← hd, hw]; rfl)
    have good : wrE s[i] = 0 → Rq (plainB s[i] = true ∧ wrE s[i] = 0 ∧ fineEd s[i]) (Rq (c.size + (bk (edL s[i])).size ≤ maxSl) (R [.str (c ++ bk (edL s[i])), .row .redit s, .int .i64 s.length, .int .i64 ((i + 1 : Nat) : Int)] [])) := fun hw => by
      rw [if_pos hw] at he hd
      have hz := congrArg ByteArray.size he
      rw [ByteArray.size_append, ByteArray.size_append, bk_size, bk_size, List.length_append] at hz
      refine Rq.mk ⟨hpl, hw, hfi⟩ (Rq.mk (by rw [bk_size]; omega) (hR (i + 1, c ++ bk (edL s[i])) ⟨hlt, ?_, hd⟩ (by dsimp only; omega)))
      dsimp only
      rw [← he]
      apply kb_inj
      simp only [kb_app, kb_bk, List.append_assoc]
    rw [rd_red hlt, wrap_succ hlt (by omega), ed_eta]
    simp only [nd_eta]
    have e1 : ∀ k : s[i].what = 1, wrE s[i] = ndE s[i].new := fun k => by unfold wrE; rw [if_pos k]
    have e2 : ∀ k : s[i].what = 2, wrE s[i] = ndE s[i].old := fun k => by unfold wrE; rw [if_neg (by omega), if_pos k]
    refine Rq.mk ⟨by omega, by omega⟩ ⟨fun k1 => ?_, fun k1 => ⟨fun k2 => ?_, fun k2 => good ?_⟩⟩
    · have k1 : s[i].what = 1 := by simpa using k1
      have hm := mch_of (c1 k1)
      refine Rq.mk ⟨hfi.1 k1, c1 k1⟩ ⟨fun h2 => bad ((e1 k1).trans (hm.2 h2)), fun h2 => ⟨fun k2 => ?_, fun _ => good ((e1 k1).trans (hm.1 h2))⟩⟩
      have k2 : s[i].what = 2 := by simpa using k2
      omega
    · have k2 : s[i].what = 2 := by simpa using k2
      have hm := mch_of (c2 k2)
      exact Rq.mk ⟨hfi.2 k2, c2 k2⟩ ⟨fun h2 => bad ((e2 k2).trans (hm.2 h2)), fun h2 => good ((e2 k2).trans (hm.1 h2))⟩
    · have k1 : ¬ s[i].what = 1 := by simpa using k1
      have k2 : ¬ s[i].what = 2 := by simpa using k2
      unfold wrE
      rw [if_neg k1, if_neg k2]
      by_cases k3 : s[i].what = 3
      · rw [if_pos k3]
      · rw [if_neg k3]; exact txtE_zero.2 (P.txt (by omega)).2.2
  · have hge : s.length ≤ i := by have := of_decide_eq_false h1; omega
    rw [List.drop_of_length_le hge] at he hd
    have hd : dbE s = 0 := hd.symm
    have : c = o ++ bk (edsL s) := by
      rw [← pfx_eq hd, ← he]; apply kb_inj; rw [kb_app, kb_bk]; exact (List.append_nil _).symm
    rw [this]
    exact h.yes (by rw [hd]; rfl)
theorem b23_holds : Holds 11 conB23 := conP_holds fun s => by
  rcases (show ∃ v : List Ed, v = s from ⟨_, rfl⟩) with ⟨s, rfl⟩
  refine fun_meets1 tokB23 [] lsB23 (by kernel_rfl) (by kernel_rfl) b23_sum fun hpre => Eq.mpr (vcB23F s _) ?_
  have hf : fineEds s := hpre _ rfl
  have fin : ∀ b e, dlyS s = b → dlyE s = e → FinQ { pre := some (fineEds s), res := .tup [.str (dlyS s), .int .i64 (dlyE s)] } [AV.str b, AV.int .i64 e] [] [] := fun b e h1 h2 => qfin rfl (by rw [h1, h2]; rfl) rfl rfl
  refine Rq.mk hf ⟨fun h => ?_, fun h => ?_⟩
  · have h : ¬ dchkS s = 0 := by simpa using h
    have e : dlyE s = dchkS s := by unfold dlyE; rw [if_neg h]
    exact fin _ _ (by unfold dlyS; rw [e, if_neg h]) e
  · have h : dchkS s = 0 := by simpa using h
    obtain ⟨c1, c2⟩ := dchk_zero h
    have e : dlyE s = dbE s := by unfold dlyE; rw [if_pos h]
    have l7 := numL_le (n := s.length) (by omega)
    rw [plN_eq]
    refine Rq.mk (by omega) ⟨fun _ => ⟨fun _ => Rq.mk ⟨rfl, rfl, c1, by rw [bk_size]; exact l7, fun x hx => ⟨c2 x hx, hf x hx⟩⟩ ⟨fun h1 => ?_, fun h1 => ?_⟩⟩⟩
    · have h1 : dbE s = 0 := by simpa using h1
      refine fin _ _ ?_ (by rw [e, h1])
      unfold dlyS
      rw [e, if_pos h1, bk_app]; rfl
    · have h1 : ¬ dbE s = 0 := by simpa using h1
      have h2 : dbE s = 2 := by
        rcases db_two c2 with q | q
        · exact absurd q h1
        · exact q
      exact fin _ _ (by unfold dlyS; rw [e, if_neg h1]) (by rw [e, h2])
theorem ref23_sum : SumOK cx0 (LL Tryz.f12 [lsRef23]) Tryz.f12.ntmps (loopAt Tryz.f12 0).1 (loopAt Tryz.f12 0).2 lsRef23 := by
  intro vs bs K hs
  unfold lsRef23 at hs
  simp only at hs
  split at hs
  case h_2 => exact hs.elim
  rename_i s m i l
  obtain ⟨⟨rfl, rfl, h0, hl⟩, h⟩ := hs
  obtain rfl : l = [] := List.eq_nil_of_length_eq_zero h0
  have hm : s.length ≤ maxSl := by omega
  refine sum_for (fun _ => True) (fun i => [.own 0 0, .row .edit s, .int .i64 s.length, .int .i64 i]) (fun i => [.rowb 0 .redit (s.take i)]) s.length (fun i hi _ R hR => ?_) (fun _ R => ?_) trivial
  · refine Eq.mpr (vcRef23B _ s s.length i _) ⟨fun _ => ⟨⟨by omega, by omega⟩, ?_⟩, fun h => lt_of h hi⟩
    rw [rd_ed hi, ed_eta]
    refine ⟨by simp only [List.length_take, List.length_cons, List.length_nil]; omega, ?_⟩
    rw [wrap_succ hi hm]
    have := hR trivial
    rw [← take_snoc hi] at this
    exact this
  · refine Eq.mpr (vcRef23B _ s s.length s.length _) ⟨fun h => not_lt_self h, fun _ => ?_⟩
    rw [List.take_length]; exact h
theorem ref23_holds : Holds 12 conRef23 := conP_holds fun s => by
  refine fun_meets1 tok0 [.row .redit] lsRef23 (by kernel_rfl) (by kernel_rfl) ref23_sum fun hpre => Eq.mpr (vcRef23F s _) ?_
  exact ⟨fun hm => ⟨⟨rfl, rfl, rfl, hpre _ rfl⟩, qfin rfl rfl rfl rfl⟩⟩
theorem len_long {s : List Ed} (h : lngB s = false) : s.length * 224 ≤ maxSl := by
  unfold lngB at h
  rw [Bool.or_eq_false_iff, decide_eq_false_iff_not] at h
  have hmx : maxSl = 140737488355328 := rfl
  omega
theorem deltaWrites_ax : Holds 3 conDeltaWrites := conP_holds fun s => by
  rcases (show ∃ v : List Ed, v = s from ⟨_, rfl⟩) with ⟨s, rfl⟩
  refine fun_meets0 (AllH.tok (.cons longD_holds (by kernel_rfl) (.cons emp_holds (by kernel_rfl) (.cons dBytes_holds (by kernel_rfl) (.cons dSize_holds (by kernel_rfl) (.cons ref23_holds (by kernel_rfl) (.cons b23_holds (by kernel_rfl) (.cons ckD_holds (by kernel_rfl) (.cons c23_holds (by kernel_rfl) .nil))))))))) [] (by kernel_rfl) (by kernel_rfl) fun _ => Eq.mpr (vcDWritesF s _) ?_
  refine ⟨fun _ => qfin rfl rfl rfl rfl, fun h1 => ?_⟩
  have hf := fine_long h1
  have hl := len_long h1
  rw [beq_self_eq_true, beq_self_eq_true, beq_self_eq_true, eqS_self]
  exact Rq.mk hf (Rq.mk hf (Rq.mk hl (Rq.mk hf (Rq.mk hf (Rq.mk hl (Rq.mk hf ⟨fun _ => ⟨fun _ => ⟨fun _ => ⟨fun _ => ⟨fun _ => ⟨fun _ => qfin rfl rfl rfl rfl⟩, fun h => (nomatch h)⟩, fun h => (nomatch h)⟩, fun h => (nomatch h)⟩, fun h => (nomatch h)⟩, fun h => (nomatch h)⟩))))))
end Go.Proofs.YtnhipiedjekkpaaGreatDoor.AX
end
section
namespace Go.Proofs.YtnhipiedjekkpaaGreatDoor.AXP
open Go Go.Proofs.YtnhipiedjekkpaaGreatDoor.AX
def inI (n : Int) : Prop := -9223372036854775808 ≤ n ∧ n < 9223372036854775808
mutual
def rngNd : Nd → Prop
  | ⟨k, s, _, _, _, c⟩ => inI k ∧ inI s ∧ rngNds c
def rngNds : List Nd → Prop
  | [] => True
  | n :: l => rngNd n ∧ rngNds l
end
def rngEd (x : Ed) : Prop := inI x.what ∧ (∀ n ∈ x.way, inI n) ∧ rngNd x.old ∧ rngNd x.new
def rngEds (s : List Ed) : Prop := ∀ x ∈ s, rngEd x
theorem rngNds_of : ∀ {l : List Nd}, (∀ x ∈ l, rngNd x) → rngNds l
  | [], _ => by rw [rngNds]; trivial
  | x :: l, h => by rw [rngNds]; exact ⟨h x (.head _), rngNds_of fun y hy => h y (.tail _ hy)⟩
end Go.Proofs.YtnhipiedjekkpaaGreatDoor.AXP
end
section
namespace Go.Proofs.YtnhipiedjekkpaaGreatDoor.AX
open Go Go.RowKit AXP
theorem list_of {α : Type} {Q : Nat → α → Prop} : ∀ n : Nat, (∀ i, i < n → ∃ x, Q i x) → ∃ l : List α, l.length = n ∧ ∀ i x, l[i]? = some x → Q i x
  | 0, _ => ⟨[], rfl, fun i x h => by simp at h⟩
  | n + 1, h => by
    obtain ⟨l, hl, hq⟩ := list_of n fun i hi => h i (by omega)
    obtain ⟨x, hx⟩ := h n (by omega)
    refine ⟨l ++ [x], by rw [List.length_append, hl]; rfl, fun i y hy => ?_⟩
    rcases Nat.lt_or_ge i n with z | z
    · rw [List.getElem?_append_left (by omega)] at hy; exact hq i y hy
    · rw [List.getElem?_append_right (by omega), hl] at hy
      have : i - n = 0 := by
        rcases Nat.eq_zero_or_pos (i - n) with w | w
        · exact w
        · rw [List.getElem?_eq_none (by simp only [List.length_cons, List.length_nil]; omega)] at hy; cases hy
      rw [this] at hy
      obtain rfl : x = y := by simpa using hy
      obtain rfl : i = n := by omega
      exact hx
theorem mapM_spec {α : Type} (f : Nat → Option α) : ∀ (l : List Nat) (cs : List α), l.mapM f = some cs → cs.length = l.length ∧ ∀ (j : Nat) (u : α), cs[j]? = some u → ∃ i, l[j]? = some i ∧ f i = some u
  | [], cs, h => by simp at h; subst h; exact ⟨rfl, fun j u h => by simp at h⟩
  | i :: l, cs, h => by
    simp only [List.mapM_cons, Option.bind_eq_bind, Option.bind_eq_some_iff, Option.pure_def, Option.some.injEq] at h
    obtain ⟨x, hx, ys, hy, rfl⟩ := h
    obtain ⟨h1, h2⟩ := mapM_spec f l ys hy
    refine ⟨by simp [h1], fun j u hu => ?_⟩
    cases j with
    | zero => simp at hu; subst hu; exact ⟨i, rfl, hx⟩
    | succ j => simpa using h2 j u (by simpa using hu)
theorem cells_spec {w : World} {base n : Nat} {a : Addr} {cs : List Value} (h : w.cells? base a n = some cs) : cs.length = n ∧ ∀ j u, cs[j]? = some u → w.cell? (a.add j) = some u := by
  unfold World.cells? at h
  split at h
  · obtain ⟨h1, h2⟩ := mapM_spec _ _ _ h
    refine ⟨by simpa using h1, fun j u hu => ?_⟩
    obtain ⟨i, hi, hf⟩ := h2 j u hu
    obtain ⟨hlt, e⟩ := List.getElem?_eq_some_iff.1 hi
    simp at e
    subst e
    exact hf
  · cases h
theorem spot_of {w : World} {a : Addr} {v : Value} (h : w.cell? a = some v) : a.spot = none := by
  unfold World.cell? at h
  split at h
  · split at h
    · cases h
    · rename_i hs; simpa using hs
  · cases h
section
variable {H : Type} {enc : TypeId × Value → H} {w : World} {base : Nat} {spare : Nat → Bool} {held : Bool} {O : Nat → Prop} {I : Im}
def Small (t : TypeId) (d : DataW H) : Prop := ∀ n ∈ d.weights Tryz.prog t, n ≤ reachBytes
theorem small_all {e : TypeId} : ∀ {ds : List (DataW H)} {i : Nat} {d : DataW H}, ds[i]? = some d → ∀ n ∈ d.weights Tryz.prog e, n ∈ DataW.weightsAll Tryz.prog e ds
  | [], _, _, h, _, _ => by simp at h
  | x :: ds, 0, d, h, n, hn => by simp at h; subst h; rw [DataW.weightsAll]; exact List.mem_append.2 (.inl hn)
  | x :: ds, i + 1, d, h, n, hn => by rw [DataW.weightsAll]; exact List.mem_append.2 (.inr (small_all (by simpa using h) n hn))
theorem open_row {t : Ty} (Pd : den t → Prop) {e sl : TypeId} (hu : Tryz.prog.underlying sl = some (.slice e)) (hc : Tryz.prog.cellsOf e = width t) (hb : 1 ≤ Tryz.prog.bytesOf e) (hO : ∀ b, ¬ O b)
    {m : Nat} {cs : List Value} {y : DataW H × List MemPlace} (h : DataW.trod enc Tryz.prog w base spare held m sl cs = some y) (hs : Small sl y.1)
    (hel : ∀ (n : Nat) (c : List Value) (z : DataW H × List MemPlace), n < m → c.length = width t → DataW.trod enc Tryz.prog w base spare held n e c = some z → Small e z.1 → ∃ x : den t, All2 (LeafR w O I) c (leaves t x) ∧ Pd x) :
    ∃ (v : Value) (l : List (den t)), cs = [v] ∧ LeafR w O I v (.row t l) ∧ ∀ x ∈ l, Pd x := by
  rcases DataW.trod_slice hu h with ⟨rfl, _⟩ | ⟨a, len, cap, elems, rest, n, rfl, rfl, rfl, _, hl, _, hlen, hels, _, _⟩
  · exact ⟨_, [], rfl, .row0 t, fun x hx => nomatch hx⟩
  · have hW := width_pos t
    rw [hc] at hels
    have hsz : len ≤ maxSl := by
      have h1 := hs ((((elems.map (·.1)).length + (rest.map (·.1)).length) * Tryz.prog.bytesOf e)) (by simp only [DataW.weights, hu]; exact .head _)
      simp only [List.length_map] at h1
      have : len ≤ (elems.length + rest.length) * Tryz.prog.bytesOf e := by
        rw [hlen]; exact Nat.le_trans (Nat.le_add_right _ _) (Nat.le_mul_of_pos_right _ hb)
      unfold reachBytes at h1
      unfold maxSl
      omega
    obtain ⟨l, hll, hq⟩ := list_of (Q := fun i (x : den t) => ∃ c : List Value, c.length = width t ∧ (All2 (LeafR w O I) c (leaves t x) ∧ Pd x) ∧ ∀ j u, c[j]? = some u → w.cell? (a.add (i * width t + j)) = some u) len fun i hi => by
      have h1 := hels i hi
      obtain ⟨z, hz⟩ : ∃ z, elems[i]? = some z := ⟨_, List.getElem?_eq_getElem (by omega)⟩
      rw [hz] at h1
      obtain ⟨c, hcc, ht⟩ := Option.bind_eq_some_iff.1 h1
      obtain ⟨g1, g2⟩ := cells_spec hcc
      have hsz' : Small e z.1 := fun k hk => hs k (by
        simp only [DataW.weights, hu]
        exact .tail _ (List.mem_append.2 (.inl (small_all (i := i) (by rw [List.getElem?_map, hz]; rfl) k hk))))
      obtain ⟨x, hx⟩ := hel n c z (Nat.lt_succ_self _) g1 ht hsz'
      refine ⟨x, c, g1, hx, fun j u hu' => ?_⟩
      have := g2 j u hu'
      unfold Addr.add at this ⊢
      by_cases hj : j = 0
      · subst hj; simpa using this
      · rw [if_neg hj] at this
        rw [if_neg (by omega)]
        split at this
        · rename_i h0; rw [h0, Nat.zero_add]; exact this
        · simpa [Nat.add_assoc] using this
    refine ⟨_, l, rfl, ?_, fun x hx => by obtain ⟨i, hi, rfl⟩ := List.getElem_of_mem hx; obtain ⟨_, _, k2, _⟩ := hq i l[i] (List.getElem?_eq_getElem hi); exact k2.2⟩
    rcases Nat.eq_zero_or_pos len with h0 | h0
    · have : l = [] := List.eq_nil_of_length_eq_zero (by omega)
      subst this
      subst h0
      exact .rowz a cap t
    · have hcell : ∀ j, j < len * width t → ∃ u, w.cell? (a.add j) = some u ∧ ∀ x, (cellsOf t l)[j]? = some x → LeafR w O I u x := fun j hj => by
        have hd : j / width t < l.length := by rw [hll]; exact Nat.div_lt_of_lt_mul (by rw [Nat.mul_comm]; exact hj)
        obtain ⟨c, k1, ⟨k2, _⟩, k3⟩ := hq (j / width t) l[j / width t] (List.getElem?_eq_getElem hd)
        have hm : j % width t < c.length := by rw [k1]; exact Nat.mod_lt _ hW
        have h3 := k3 (j % width t) c[j % width t] (List.getElem?_eq_getElem hm)
        have hj' : j / width t * width t + j % width t = j := by rw [Nat.mul_comm]; exact Nat.div_add_mod j (width t)
        rw [hj'] at h3
        refine ⟨_, h3, fun x hx => ?_⟩
        rw [cellsOf_get hd] at hx
        obtain ⟨y', hy', hr⟩ := k2.get' (List.getElem?_eq_getElem hm)
        rw [hx] at hy'; injection hy' with hy'; subst hy'; exact hr
      obtain ⟨b, off, sp⟩ := a
      obtain ⟨u0, hu0, _⟩ := hcell 0 (Nat.mul_pos h0 hW)
      have hsp : sp = none := spot_of hu0
      subst hsp
      have key := LeafR.row (w := w) (O := O) (I := I) b off cap t l ((List.range (len * width t)).map fun j => (w.cell? ⟨b, off + j, none⟩).getD (.bool false)) (fun _ => hO b) (by omega) (by omega) (fun j u hu' => ?_) (by simp only [List.length_map, List.length_range]; rw [cellsOf_length, hll]) (fun j u x hu' hx => ?_)
      · rw [hll] at key; exact key
      · simp only [List.getElem?_map, Option.map_eq_some_iff] at hu'
        obtain ⟨k, hk, rfl⟩ := hu'
        obtain ⟨hlt, e'⟩ := List.getElem?_eq_some_iff.1 hk
        simp at e' hlt
        subst e'
        obtain ⟨u1, hu1, _⟩ := hcell j hlt
        have e2 : (⟨b, off, none⟩ : Addr).add j = ⟨b, off + j, none⟩ := by unfold Addr.add; split <;> simp_all
        rw [e2] at hu1
        rw [hu1]; rfl
      · simp only [List.getElem?_map, Option.map_eq_some_iff] at hu'
        obtain ⟨k, hk, rfl⟩ := hu'
        obtain ⟨hlt, e'⟩ := List.getElem?_eq_some_iff.1 hk
        simp at e' hlt
        subst e'
        obtain ⟨u1, hu1, hr⟩ := hcell j hlt
        have e2 : (⟨b, off, none⟩ : Addr).add j = ⟨b, off + j, none⟩ := by unfold Addr.add; split <;> simp_all
        rw [e2] at hu1
        rw [hu1]
        exact hr x hx
theorem field_of {t : TypeId} {fs : Array Field} (hu : Tryz.prog.underlying t = some (.struct fs)) {m : Nat} {cs : List Value} {y : DataW H × List MemPlace} (h : DataW.trod enc Tryz.prog w base spare held m t cs = some y) (hs : Small t y.1) (i : Nat) (f : Field) (hf : fs[i]? = some f) :
    ∃ (n : Nat) (z : DataW H × List MemPlace), n < m ∧ DataW.trod enc Tryz.prog w base spare held n f.type ((cs.drop f.offset).take (Tryz.prog.cellsOf f.type)) = some z ∧ Small f.type z.1 := by
  obtain ⟨xs, n, rfl, rfl, _, hlen, hff⟩ := DataW.trod_struct hu h
  have hlt : i < xs.length := by rw [hlen]; exact (Array.getElem?_eq_some_iff.1 hf).1
  refine ⟨n, xs[i], Nat.lt_succ_self _, by rw [hff i f hf, List.getElem?_eq_getElem hlt], fun k hk => hs k ?_⟩
  simp only [DataW.weights, hu]
  refine DataW.weights_mem_each (j := i) (t := f.type) (d := xs[i].1) ?_ ?_ k hk
  · rw [List.getElem?_map, Array.getElem?_toList, hf]; rfl
  · rw [List.getElem?_map, List.getElem?_eq_getElem hlt]; rfl
theorem struct_len {t : TypeId} {fs : Array Field} (hu : Tryz.prog.underlying t = some (.struct fs)) {m : Nat} {cs : List Value} {y : DataW H × List MemPlace} (h : DataW.trod enc Tryz.prog w base spare held m t cs = some y) : cs.length = Tryz.prog.cellsOf t := by
  obtain ⟨_, _, _, _, hl, _, _⟩ := DataW.trod_struct hu h
  exact hl
theorem wf_inI {n : Int} (h : (Lit.int .i64 n).wf = true) : inI n := by
  have h : (decide (IntKind.i64.min ≤ n) && decide (n ≤ IntKind.i64.max)) = true := h
  rw [Bool.and_eq_true, decide_eq_true_eq, decide_eq_true_eq, show IntKind.i64.min = -9223372036854775808 by decide, show IntKind.i64.max = 9223372036854775807 by decide] at h
  exact ⟨h.1, by omega⟩
theorem open_int1 {m : Nat} {cs : List Value} {y : DataW H × List MemPlace} (h : DataW.trod enc Tryz.prog w base spare held m 3 cs = some y) : ∃ n, cs = [.int .i64 n] ∧ inI n := by
  obtain ⟨n, e, _, hw⟩ := DataW.trod_int Tryz.underlying3 h
  exact ⟨n, e, wf_inI hw⟩
theorem open_str1 {m : Nat} {cs : List Value} {y : DataW H × List MemPlace} (h : DataW.trod enc Tryz.prog w base spare held m 9 cs = some y) (hs : Small 9 y.1) : ∃ s : ByteArray, cs = [.string s] ∧ s.size ≤ maxSl := by
  obtain ⟨s, e, rfl, _⟩ := DataW.trod_string Tryz.underlying9 h
  refine ⟨s, e, ?_⟩
  have := hs s.data.toList.length (by simp [DataW.weights])
  rw [Array.length_toList] at this
  have h2 : s.size ≤ reachBytes := this
  unfold reachBytes at h2
  unfold maxSl
  omega
theorem cells_int : Tryz.prog.cellsOf 3 = 1 := by kernel_rfl
theorem cells_str : Tryz.prog.cellsOf 9 = 1 := by kernel_rfl
theorem cells_ints : Tryz.prog.cellsOf 48 = 1 := by kernel_rfl
theorem cells_ats : Tryz.prog.cellsOf 49 = 1 := by kernel_rfl
theorem cells_nds : Tryz.prog.cellsOf 50 = 1 := by kernel_rfl
theorem cells_at : Tryz.prog.cellsOf 95 = 2 := by kernel_rfl
theorem cells_nd : Tryz.prog.cellsOf 52 = 6 := by kernel_rfl
theorem open_ints (hO : ∀ b, ¬ O b) {m : Nat} {cs : List Value} {y : DataW H × List MemPlace} (h : DataW.trod enc Tryz.prog w base spare held m 48 cs = some y) (hs : Small 48 y.1) : ∃ (v : Value) (l : List Int), cs = [v] ∧ LeafR w O I v (.row .int l) ∧ ∀ n ∈ l, inI n :=
  open_row (t := .int) inI Tryz.underlying48 cells_int (Nat.le_of_ble_eq_true (by kernel_rfl)) hO h hs fun n c z _ _ hz _ => by
    obtain ⟨k, rfl, hk⟩ := open_int1 hz
    exact ⟨k, .cons (.int _ _) .nil, hk⟩
set_option maxRecDepth 100000
theorem open_ats (hO : ∀ b, ¬ O b) {m : Nat} {cs : List Value} {y : DataW H × List MemPlace} (h : DataW.trod enc Tryz.prog w base spare held m 49 cs = some y) (hs : Small 49 y.1) : ∃ (v : Value) (l : List At), cs = [v] ∧ LeafR w O I v (.row .attr l) ∧ ∀ x ∈ l, True :=
  open_row (t := .attr) (fun _ => True) Tryz.underlying49 cells_at (Nat.le_of_ble_eq_true (by kernel_rfl)) hO h hs fun n c z _ hl hz hsz => by
    obtain ⟨_, z0, _, g0, s0⟩ := field_of Tryz.underlying95 hz hsz 0 _ rfl
    obtain ⟨_, z1, _, g1, s1⟩ := field_of Tryz.underlying95 hz hsz 1 _ rfl
    obtain ⟨x0, e0, b0⟩ := open_str1 g0 s0
    obtain ⟨x1, e1, b1⟩ := open_str1 g1 s1
    match c, hl with
    | [c0, c1], _ =>
      simp [cells_str] at e0 e1
      subst e0 e1
      exact ⟨⟨x0, x1⟩, .cons (.str _ b0) (.cons (.str _ b1) .nil), trivial⟩
theorem open_nd (hO : ∀ b, ¬ O b) : ∀ (m : Nat) {cs : List Value} {y : DataW H × List MemPlace}, DataW.trod enc Tryz.prog w base spare held m 52 cs = some y → Small 52 y.1 → ∃ x : Nd, All2 (LeafR w O I) cs (nodeL x) ∧ rngNd x := by
  intro m
  induction m using Nat.strongRecOn with
  | ind m ih =>
    intro cs y h hs
    obtain ⟨_, z0, _, g0, s0⟩ := field_of Tryz.underlying52 h hs 0 _ rfl
    obtain ⟨_, z1, _, g1, s1⟩ := field_of Tryz.underlying52 h hs 1 _ rfl
    obtain ⟨_, z2, _, g2, s2⟩ := field_of Tryz.underlying52 h hs 2 _ rfl
    obtain ⟨_, z3, _, g3, s3⟩ := field_of Tryz.underlying52 h hs 3 _ rfl
    obtain ⟨_, z4, _, g4, s4⟩ := field_of Tryz.underlying52 h hs 4 _ rfl
    obtain ⟨n5, z5, l5, g5, s5⟩ := field_of Tryz.underlying52 h hs 5 _ rfl
    have hlen := struct_len Tryz.underlying52 h
    rw [cells_nd] at hlen
    obtain ⟨x0, e0, i0⟩ := open_int1 g0
    obtain ⟨x1, e1, i1⟩ := open_int1 g1
    obtain ⟨x2, e2, b2⟩ := open_str1 g2 s2
    obtain ⟨v3, x3, e3, r3, _⟩ := open_ats (I := I) hO g3 s3
    obtain ⟨x4, e4, b4⟩ := open_str1 g4 s4
    obtain ⟨v5, x5, e5, r5, i5⟩ := open_row (t := .node) (I := I) rngNd Tryz.underlying50 cells_nd (Nat.le_of_ble_eq_true (by kernel_rfl)) hO g5 s5 fun n c z hn _ hz hsz => ih n (by omega) hz hsz
    match cs, hlen with
    | [c0, c1, c2, c3, c4, c5], _ =>
      simp [cells_int, cells_str, cells_ats, cells_nds] at e0 e1 e2 e3 e4 e5
      subst e0 e1 e2 e3 e4 e5
      exact ⟨⟨x0, x1, x2, x3, x4, x5⟩, .cons (.int _ _) (.cons (.int _ _) (.cons (.str _ b2) (.cons r3 (.cons (.str _ b4) (.cons r5 .nil))))), by rw [rngNd]; exact ⟨i0, i1, rngNds_of i5⟩⟩
end
theorem opened {H : Type} {enc : TypeId × Value → H} {w : World} {spare : Nat → Bool} {held : Bool} {t : TypeId} {v : Value} {d : DataW H} {p : List MemPlace} (h : DataW.Trod enc Tryz.prog w 0 spare held t v d p) : ∃ m, DataW.trod enc Tryz.prog w 0 spare held m t v.cells.toList = some (d, p) := h
end Go.Proofs.YtnhipiedjekkpaaGreatDoor.AX
end
section
namespace Go.Proofs.YtnhipiedjekkpaaGreatDoor.AX
open Go Go.RowKit AXP
set_option maxRecDepth 100000
section
variable {H : Type} {enc : TypeId × Value → H} {w : World} {base : Nat} {spare : Nat → Bool} {held : Bool} {O : Nat → Prop} {I : Im}
theorem cells_ed : Tryz.prog.cellsOf 54 = 14 := by kernel_rfl
theorem open_eds (hO : ∀ b, ¬ O b) {m : Nat} {cs : List Value} {y : DataW H × List MemPlace} (h : DataW.trod enc Tryz.prog w base spare held m 22 cs = some y) (hs : Small 22 y.1) : ∃ (v : Value) (l : List Ed), cs = [v] ∧ LeafR w O I v (.row .edit l) ∧ rngEds l :=
  open_row (t := .edit) rngEd Tryz.underlying22 cells_ed (Nat.le_of_ble_eq_true (by kernel_rfl)) hO h hs fun n c z _ hl hz hsz => by
    obtain ⟨_, z0, _, g0, s0⟩ := field_of Tryz.underlying54 hz hsz 0 _ rfl
    obtain ⟨_, z1, _, g1, s1⟩ := field_of Tryz.underlying54 hz hsz 1 _ rfl
    obtain ⟨_, z2, _, g2, s2⟩ := field_of Tryz.underlying54 hz hsz 2 _ rfl
    obtain ⟨_, z3, _, g3, s3⟩ := field_of Tryz.underlying54 hz hsz 3 _ rfl
    obtain ⟨x0, e0, i0⟩ := open_int1 g0
    obtain ⟨v1, x1, e1, r1, i1⟩ := open_ints (I := I) hO g1 s1
    obtain ⟨x2, r2, i2⟩ := open_nd (I := I) hO _ g2 s2
    obtain ⟨x3, r3, i3⟩ := open_nd (I := I) hO _ g3 s3
    match c, hl with
    | [c0, c1, c2, c3, c4, c5, c6, c7, c8, c9, c10, c11, c12, c13], _ =>
      simp [cells_int, cells_ints] at e0 e1
      subst e0 e1
      simp [cells_nd] at r2 r3
      refine ⟨⟨x0, x1, x2, x3⟩, .cons (.int _ _) (.cons r1 ?_), i0, i1, i2, i3⟩
      exact r2.append r3
end
end Go.Proofs.YtnhipiedjekkpaaGreatDoor.AX
end
section
namespace Go.Proofs.YtnhipiedjekkpaaGreatDoor.AX
open Go Go.ChangeShapes Go.WideShapes Go.ChangeAt Go.RowKit
def encTw (a : Tw) : List Value := [.int .i64 a.a, .int .i64 a.b]
theorem take_at {α : Type} {cs e : List α} {a n i : Nat} {u : α} (h : (cs.drop a).take n = e) (hu : e[i]? = some u) : cs[a + i]? = some u := by
  subst h
  rw [List.getElem?_take] at hu
  split at hu
  · rwa [List.getElem?_drop] at hu
  · cases hu
theorem cells_of_array {α H : Type} {enc0 : TypeId × Value → H} {P : Program} {w : World} {base : Nat} {spare : Nat → Bool} {held : Bool} {fuel : Nat} {t e : TypeId} {n sz : Nat} {cs : List Value} {p : List MemPlace} (ht : P.underlying t = some (.array n e)) (hsz : P.cellsOf e = sz)
    (encd : α → DataW H) (enc : α → List Value) (l : List α) (hl : l.length = n)
    (hone : ∀ m a c q, DataW.trod enc0 P w base spare held m e c = some (encd a, q) → c = enc a)
    (h : DataW.trod enc0 P w base spare held fuel t cs = some (.agg (l.map encd), p)) : ∀ j a, l[j]? = some a → ∀ i u, (enc a)[i]? = some u → cs[j * sz + i]? = some u := by
  obtain ⟨xs, m, _, hx, _, hxl, hel⟩ := DataW.trod_array ht h
  simp only [Prod.mk.injEq, DataW.agg.injEq] at hx
  intro j a ha i u hu
  have hj : j < n := by rw [← hl]; exact (List.getElem?_eq_some_iff.1 ha).1
  have h1 := hel j hj
  rw [hsz] at h1
  have h2 : (xs.map (·.1))[j]? = (l.map encd)[j]? := by rw [hx.1]
  rw [List.getElem?_map, List.getElem?_map, ha] at h2
  obtain ⟨⟨d, q⟩, hq, hd⟩ := Option.map_eq_some_iff.1 h2
  simp only at hd
  subst hd
  rw [hq] at h1
  exact take_at (hone _ _ _ _ h1) hu
theorem rec2 {H : Type} {enc0 : TypeId × Value → H} {w : World} {base : Nat} {spare : Nat → Bool} {held : Bool} {T : TypeId} {f0 f1 : Field} (hT : Tryz.prog.underlying T = some (.struct #[f0, f1])) (h0 : f0.type = 3 ∧ f0.offset = 0) (h1 : f1.type = 3 ∧ f1.offset = 1) (hc : Tryz.prog.cellsOf T = 2)
    (m : Nat) (a : Tw) (c : List Value) (q : List MemPlace) (h : DataW.trod enc0 Tryz.prog w base spare held m T c = some (.agg [.lit (.int .i64 a.1), .lit (.int .i64 a.2)], q)) : c = encTw a := by
  obtain ⟨y0, y1, n, hx, hl, g0, g1⟩ := trod_struct2 hT h
  have c3 : Tryz.prog.cellsOf 3 = 1 := by kernel_rfl
  rw [h0.1, h0.2, c3] at g0
  rw [h1.1, h1.2, c3] at g1
  rw [hc] at hl
  obtain ⟨x0, e0, rfl, _⟩ := DataW.trod_int Tryz.underlying3 g0
  obtain ⟨x1, e1, rfl, _⟩ := DataW.trod_int Tryz.underlying3 g1
  simp only [Prod.mk.injEq, DataW.agg.injEq, List.cons.injEq, DataW.lit.injEq, Lit.int.injEq, true_and, and_true] at hx
  match c, hl with
  | [c0, c1], _ =>
    simp at e0 e1
    subst e0 e1
    obtain ⟨⟨r0, r1⟩, _⟩ := hx
    simp [encTw, r0, r1]
theorem laid_mem {P : Program} {w : World} : ∀ {l : List (String × DataW Unit)} {ps : List MemPlace}, DataW.LaidVars P w l ps → ∀ n d, (n, d) ∈ l →
    ∃ g t cs fuel p, P.globalNamed n = some g ∧ (P.globals[g]?).map (·.type) = some t ∧ w.var? P n = some cs ∧ DataW.trod (fun _ => ()) P w 0 (fun _ => true) false fuel t cs.toList = some (d, p)
  | [], _, _, _, _, h => by simp at h
  | (n0, d0) :: r, ps, ⟨g, t, cs, fuel, p, q, h1, h2, h3, h4, hr, _⟩, n, d, h => by
    rcases List.mem_cons.1 h with h | h
    · obtain ⟨rfl, rfl⟩ := Prod.mk.inj h
      exact ⟨g, t, cs, fuel, p, h1, h2, h3, h4⟩
    · exact laid_mem hr n d h
theorem var_cells {W : World} {n : String} {g : Nat} {t : TypeId} {d : DataW Unit} {l : List (String × DataW Unit)} (hl : laidMet Tryz.prog l W) (hm : (n, d) ∈ l) (hg : Tryz.prog.globalNamed n = some g) (ht : (Tryz.prog.globals[g]?).map (·.type) = some t) :
    ∃ (cs : Array Value) (fuel : Nat) (p : List MemPlace), DataW.trod (fun _ => ()) Tryz.prog W 0 (fun _ => true) false fuel t cs.toList = some (d, p) ∧ ∀ i : Nat, W.cell? ⟨g, i, none⟩ = cs.toList[i]? := by
  obtain ⟨ps, hv, _, _⟩ := hl
  obtain ⟨g', t', cs, fuel, p, h1, h2, h3, h4⟩ := laid_mem hv n d hm
  obtain rfl := Option.some.inj (hg.symm.trans h1)
  obtain rfl := Option.some.inj (ht.symm.trans h2)
  exact ⟨cs, fuel, p, h4, fun i => by rw [World.var?_cell hg h3 i]; simp⟩
theorem maxlen_of {W : World} (h : W.ShapedOpen Tryz.prog) : ∃ m, W.cell? ⟨1, 0, none⟩ = some (.int .i64 m) :=
  cell_of_shapedOpen_int (t := 3) (zero := #[.int .i64 0]) h (of_decide_eq_true (by kernel_rfl)) (by kernel_rfl) rfl (by kernel_rfl) (by kernel_rfl) Tryz.underlying3
def uRows : List Tw := [⟨0, 0⟩, ⟨0, 0⟩, ⟨192, 128⟩, ⟨224, 2048⟩, ⟨240, 65536⟩]
theorem glob_of {W : World} {l : List (String × DataW Unit)} {O : Nat → Prop} (hO : ∀ b, ¬ O b) (hl : laidMet Tryz.prog l W) (m0 : ("recto/utf.rows", Rows.laid_recto_utf_rows) ∈ l) (hs : W.ShapedOpen Tryz.prog) : GOK cx0.tid W O := by
  have c58 : Tryz.prog.cellsOf 173 = 2 := by kernel_rfl
  obtain ⟨cs, fuel, p, h, hc⟩ := var_cells hl m0 (show Tryz.prog.globalNamed "recto/utf.rows" = some 0 by kernel_rfl) (show (Tryz.prog.globals[0]?).map (·.type) = some 174 by kernel_rfl)
  have r0 : ∀ j a, uRows[j]? = some a → ∀ i u, (encTw a)[i]? = some u → W.cell? ⟨0, j * 2 + i, none⟩ = some u := fun j a ha i u hu => (hc _).trans (cells_of_array Tryz.underlying174 c58 (fun a : Tw => .agg [.lit (.int .i64 a.1), .lit (.int .i64 a.2)]) encTw uRows rfl (fun m a c q => rec2 Tryz.underlying173 ⟨rfl, rfl⟩ ⟨rfl, rfl⟩ c58 m a c q) h j a ha i u hu)
  refine ⟨fun q hq => ?_, fun g hg => ?_⟩
  · have hq : q ∈ [Glo.mk 0 .two uRows] := hq
    rw [List.mem_singleton] at hq
    subst hq
    refine ⟨by kernel_rfl, hO _, World.block_lt_of_cell? W _ (r0 0 _ rfl 0 _ rfl), fun j a ha => ?_⟩
    have hj : j < (cellsOf .two uRows).length := (List.getElem?_eq_some_iff.1 ha).1
    rw [cellsOf_length] at hj
    have hd : j / width .two < uRows.length := Nat.div_lt_of_lt_mul (by rw [Nat.mul_comm]; exact hj)
    rw [cellsOf_get hd] at ha
    have e : ∀ (x : Tw) (i : Nat) (a : AV), (leaves .two x)[i]? = some a → (encTw x)[i]? = some (flatV a) := fun x i a h => by
      match i, h with
      | 0, h => cases h; rfl
      | 1, h => cases h; rfl
    have := r0 (j / 2) uRows[j / width .two] (List.getElem?_eq_getElem hd) (j % 2) (flatV a) (e _ _ _ ha)
    rw [show j / 2 * 2 + j % 2 = j by omega] at this
    exact this
  · have hg : g ∈ [1] := hg
    rw [List.mem_singleton] at hg
    subst hg
    exact ⟨hO _, maxlen_of hs⟩
end Go.Proofs.YtnhipiedjekkpaaGreatDoor.AX
end
