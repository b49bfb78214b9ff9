/- What the code of this statement does, over values that stand for data: an executor of the model's code, that it is sound, and contracts of functions: part 4. No condition is added to the statement. -/
import Derived.Test.YtpbpabadbipfdaaGreatDoorME3
set_option linter.unusedVariables false
set_option linter.unusedSimpArgs false
section
namespace Go.Proofs.YtpbpabadbipfdaaGreatDoor.AXP
open Go Go.Proofs.YtpbpabadbipfdaaGreatDoor.AX
theorem eqS_sym (a b : ByteArray) : eqS a b = eqS b a := by
  rw [Bool.eq_iff_iff, eqS_iff, eqS_iff]; exact eq_comm
theorem twice_snoc : ∀ (l : List At) (a : At), twiceB (l ++ [a]) = (twiceB l || l.any fun b => eqS a.name b.name)
  | [], a => rfl
  | b :: l, a => by
    rw [List.cons_append, twiceB, twiceB, twice_snoc l a, List.any_append, List.any_cons, List.any_cons, List.any_nil, Bool.or_false, eqS_sym b.name a.name]
    cases l.any (fun b_1 => eqS b.name b_1.name) <;> cases eqS a.name b.name <;> cases twiceB l <;> cases l.any (fun b => eqS a.name b.name) <;> rfl
theorem rd_atA {l : List At} {i : Nat} (h : i < l.length) : rd Ty.attr l (i : Int) = l[i] := rd_at h
theorem twI_eq {l : List At} {i : Nat} (h : i < l.length) : twiceB (l.take (i + 1)) = (twiceB (l.take i) || twI l i) := by
  unfold twI
  rw [← take_snoc h, twice_snoc, Int.toNat_natCast, rd_atA h]
theorem twice_app : ∀ (a b : List At), twiceB a = true → twiceB (a ++ b) = true
  | [], b, h => by cases h
  | x :: a, b, h => by
    rw [List.cons_append, twiceB, List.any_append]
    rw [twiceB] at h
    rw [Bool.or_eq_true] at h
    rcases h with h | h
    · rw [h]; rfl
    · rw [twice_app a b h, Bool.or_true]
theorem escQ_le (s : ByteArray) : (escQ s).size ≤ 7350 * s.size := by
  unfold escQ
  have h1 := repS_le (s := s) (p := ⟨#[38]⟩) (q := ⟨#[38, 97, 109, 112, 59]⟩) (Nat.le_refl 1)
  generalize repS s ⟨#[38]⟩ ⟨#[38, 97, 109, 112, 59]⟩ = s1 at *
  have h2 := repS_le (s := s1) (p := ⟨#[194, 160]⟩) (q := ⟨#[38, 110, 98, 115, 112, 59]⟩) (show 1 ≤ 2 by decide)
  generalize repS s1 ⟨#[194, 160]⟩ ⟨#[38, 110, 98, 115, 112, 59]⟩ = s2 at *
  have h3 := repS_le (s := s2) (p := ⟨#[60]⟩) (q := ⟨#[38, 108, 116, 59]⟩) (Nat.le_refl 1)
  generalize repS s2 ⟨#[60]⟩ ⟨#[38, 108, 116, 59]⟩ = s3 at *
  have h4 := repS_le (s := s3) (p := ⟨#[62]⟩) (q := ⟨#[38, 103, 116, 59]⟩) (Nat.le_refl 1)
  generalize repS s3 ⟨#[62]⟩ ⟨#[38, 103, 116, 59]⟩ = s4 at *
  have h5 := repS_le (s := s4) (p := ⟨#[34]⟩) (q := ⟨#[38, 113, 117, 111, 116, 59]⟩) (Nat.le_refl 1)
  change s1.size ≤ s.size + s.size * 5 at h1
  change s2.size ≤ s1.size + s1.size * 6 at h2
  change s3.size ≤ s2.size + s2.size * 4 at h3
  change s4.size ≤ s3.size + s3.size * 4 at h4
  change _ ≤ s4.size + s4.size * 6 at h5
  omega
theorem okA_iff {x : At} : okA x = true ↔ nameB x.name = true ∧ goodB x.value = true := by unfold okA; rw [Bool.and_eq_true]
theorem nameB_le {s : ByteArray} (h : nameB s = true) : s.size ≤ 24 := by
  unfold nameB at h
  simp only [Bool.and_eq_true, decide_eq_true_eq] at h
  exact h.1.1.2
theorem atO_size (x : At) : (atO x).size = 1 + x.name.size + 2 + (escQ x.value).size + 1 := by
  unfold atO
  simp only [ByteArray.size_append]; rfl
theorem opF_app : ∀ {l : List At} {t : ByteArray} (r : List At), l.all okA = true → opF t (l ++ r) = opF (opF t l) r
  | [], t, r, _ => rfl
  | x :: l, t, r, h => by
    rw [List.all_cons, Bool.and_eq_true] at h
    rw [List.cons_append, opF, opF, if_pos h.1, if_pos h.1, opF_app r h.2]
theorem opF_le : ∀ (l : List At) (t : ByteArray), (∀ x ∈ l, x.value.size ≤ 1000000) → (opF t l).size ≤ t.size + l.length * 7350000028
  | [], t, _ => by rw [opF]; omega
  | x :: l, t, h => by
    rw [opF]
    split
    · rename_i hx
      have h1 := opF_le l (t ++ atO x) fun y hy => h y (.tail _ hy)
      have h2 := nameB_le (okA_iff.1 hx).1
      have h3 := escQ_le x.value
      have h4 := h x (.head _)
      rw [ByteArray.size_append, atO_size] at h1
      rw [List.length_cons]; omega
    · omega
theorem wrong_all (a : List At) : (a.any fun x => !(nameB x.name && goodB x.value)) = !(a.all okA) := by
  induction a with
  | nil => rfl
  | cons x l ih => rw [List.any_cons, List.all_cons, ih]; show (!okA x || !l.all okA) = _; rw [Bool.not_and]
end Go.Proofs.YtpbpabadbipfdaaGreatDoor.AXP
namespace Go.Proofs.YtpbpabadbipfdaaGreatDoor.AX
open Go AXP
set_option maxRecDepth 100000
theorem twO_sum : SumOK cxTw (LL Tryz.f76 [lsTwO, lsTwI]) Tryz.f76.ntmps (loopAt Tryz.f76 0).1 (loopAt Tryz.f76 0).2 lsTwO := by
  intro vs bs K hs
  unfold lsTwO at hs
  simp only at hs
  split at hs
  case h_2 => exact hs.elim
  rename_i l m i
  rcases (show ∃ w : List At, w = l from ⟨_, rfl⟩) with ⟨l, rfl⟩
  obtain ⟨⟨rfl, rfl, hm⟩, h⟩ := hs
  refine sum_rec (σ := Nat) (fun i => [.row .attr l, .int .i64 l.length, .int .i64 (i : Nat)]) (fun _ => []) (fun i => i ≤ l.length ∧ twiceB (l.take i) = false) (fun i => l.length - i) ?_ 0 ⟨Nat.zero_le _, rfl⟩
  rintro i ⟨hi, ht⟩ R hR
  refine Eq.mpr (vcTwO l l.length i _) ⟨fun h1 => ?_, fun h1 => ?_⟩
  · have hlt : i < l.length := by have := of_decide_eq_true h1; omega
    have e := twI_eq hlt
    rw [ht, Bool.false_or] at e
    refine Rq.mk ⟨rfl, rfl, by omega, by omega, hm⟩ ⟨fun h2 => h.yes ?_, fun h2 => ?_⟩
    · rw [h2] at e
      have := twice_app _ (l.drop (i + 1)) e
      rwa [List.take_append_drop] at this
    · rw [wrap_succ hlt hm]
      exact hR (i + 1) ⟨hlt, by rw [e, h2]⟩ (by omega)
  · have : i = l.length := by have := of_decide_eq_false h1; omega
    subst this
    rw [List.take_length] at ht
    exact h.no ht
theorem twIn_sum : SumOK cxTw (LL Tryz.f76 [lsTwO, lsTwI]) Tryz.f76.ntmps (loopAt Tryz.f76 1).1 (loopAt Tryz.f76 1).2 lsTwI := by
  intro vs bs K hs
  unfold lsTwI at hs
  simp only at hs
  split at hs
  case h_2 => exact hs.elim
  rename_i l i m j n k
  rcases (show ∃ w : List At, w = l from ⟨_, rfl⟩) with ⟨l, rfl⟩
  obtain ⟨⟨rfl, rfl, h0, hl, hm⟩, h⟩ := hs
  obtain ⟨i, rfl⟩ := Int.eq_ofNat_of_zero_le h0
  have hl : i < l.length := by omega
  refine sum_rec (σ := Nat) (fun k => [.row .attr l, .int .i64 i, .int .i64 m, .int .i64 j, .int .i64 i, .int .i64 (k : Nat)]) (fun _ => []) (fun k => k ≤ i ∧ ((l.take k).any fun b => eqS (rd Ty.attr l i).name b.name) = false) (fun k => i - k) ?_ 0 ⟨Nat.zero_le _, rfl⟩
  rintro k ⟨hk, ht⟩ R hR
  refine Eq.mpr (vcTwI l i m j i k _) ⟨fun h1 => ?_, fun h1 => ?_⟩
  · have hlt : k < i := by have := of_decide_eq_true h1; omega
    have hkl : k < l.length := by omega
    have e : ((l.take (k + 1)).any fun b => eqS (rd Ty.attr l i).name b.name) = eqS (rd Ty.attr l i).name (rd Ty.attr l k).name := by
      rw [← take_snoc hkl, List.any_append, ht, Bool.false_or, List.any_cons, List.any_nil, Bool.or_false, rd_atA hkl]
    refine Rq.mk ⟨by omega, by omega⟩ (Rq.mk ⟨by omega, by omega⟩ ⟨fun h2 => h.yes ?_, fun h2 => ?_⟩)
    · unfold twI
      rw [Int.toNat_natCast, List.any_eq_true]
      have h2 : eqS (rd Ty.attr l i).name (rd Ty.attr l k).name = true := h2
      rw [h2, List.any_eq_true] at e
      obtain ⟨x, hx, q⟩ := e
      exact ⟨x, (List.take_sublist_take_left (show k + 1 ≤ i by omega)).subset hx, q⟩
    · rw [wrap_succ hkl hm]
      exact hR (k + 1) ⟨by omega, e.trans h2⟩ (by omega)
  · have : k = i := by have := of_decide_eq_false h1; omega
    subst this
    exact h.no (by unfold twI; rw [Int.toNat_natCast]; exact ht)
theorem tw_holds : Holds 76 conTw := conP_holds fun l => by
  refine fun_meets2 tok0 [] lsTwO lsTwI (by kernel_rfl) (by kernel_rfl) twO_sum twIn_sum fun _ => Eq.mpr (vcTwF l _) ?_
  have e : ∀ b, twiceB l = b → [AV.bool b] = compsOf (.bool (twiceB l)) := fun b h => by rw [h]; rfl
  exact ⟨fun hm => Rq.mk ⟨rfl, rfl, hm⟩ ⟨fun h => qfin rfl (e _ h) rfl rfl, fun h => qfin rfl (e _ h) rfl rfl⟩⟩
theorem siz_sum : SumOK cxTw (LL Tryz.f94 [lsSiz]) Tryz.f94.ntmps (loopAt Tryz.f94 0).1 (loopAt Tryz.f94 0).2 lsSiz := by
  intro vs bs K hs
  unfold lsSiz at hs
  simp only at hs
  split at hs
  case h_2 => exact hs.elim
  obtain ⟨⟨rfl, rfl⟩, h⟩ := hs
  refine sum_rec (σ := Nat) (fun n => [.int .i64 160, .int .i64 ((n + 2 : Nat) : Int)]) (fun _ => []) (fun n => n ≤ 2) (fun n => n) ?_ 2 (Nat.le_refl _)
  intro n hn R hR
  obtain rfl | rfl | rfl : n = 0 ∨ n = 1 ∨ n = 2 := by omega
  · refine Eq.mpr (vcSizB 160 2 _) (Rq.mk ⟨by decide, by decide⟩ ⟨fun h1 => absurd h1 (by decide), fun _ => h⟩)
  · refine Eq.mpr (vcSizB 160 3 _) (Rq.mk ⟨by decide, by decide⟩ ⟨fun _ => hR 0 (by decide) (by decide), fun h1 => absurd h1 (by decide)⟩)
  · refine Eq.mpr (vcSizB 160 4 _) (Rq.mk ⟨by decide, by decide⟩ ⟨fun _ => hR 1 (by decide) (by decide), fun h1 => absurd h1 (by decide)⟩)
theorem siz_holds : Holds 94 conSiz := conP_holds fun c => by
  intro F I w vals hH hv hpre
  obtain rfl : c = (160 : Int) := hpre _ rfl
  exact fun_meets1 tok0 [] lsSiz (by kernel_rfl) (by kernel_rfl) siz_sum (fun _ => Eq.mpr (vcSizF _) (Rq.mk ⟨rfl, rfl⟩ (qfin rfl rfl rfl rfl))) F I w vals hH hv hpre
theorem byt_sum : SumOK cxByt (LL Tryz.f89 [lsByt]) Tryz.f89.ntmps (loopAt Tryz.f89 0).1 (loopAt Tryz.f89 0).2 lsByt := by
  intro vs bs K hs
  unfold lsByt at hs
  simp only at hs
  split at hs
  case h_2 => exact hs.elim
  rename_i xs
  obtain ⟨⟨rfl, rfl, rfl, hx⟩, h⟩ := hs
  subst hx
  refine sum_rec (σ := Bool) (fun b => [.int .i64 (if b then 160 else 2), .int .i64 2, .own 0 0, .int .i64 (if b then 1 else 0)]) (fun b => [.rowb 0 .u8 (if b then [(0 : Int), 0] else [(0 : Int), 160])]) (fun _ => True) (fun b => if b then 1 else 0) ?_ true trivial
  rintro (_ | _) _ R hR
  · exact Eq.mpr (vcBytB 2 2 0 [(0 : Int), 160] _) ⟨fun h1 => absurd h1 (by decide), fun _ => h⟩
  · refine Eq.mpr (vcBytB 160 2 1 [(0 : Int), 0] _) ⟨fun _ => Rq.mk ⟨by decide, by decide⟩ (Rq.mk (by decide) ?_), fun h1 => absurd h1 (by decide)⟩
    have e1 : IntKind.u8.wrap (IntKind.i64.wrap (↑(BitVec.ofInt IntKind.i64.bits (128 : Int) ||| BitVec.ofInt IntKind.i64.bits (IntKind.i64.wrap (↑(BitVec.ofInt IntKind.i64.bits (160 : Int) &&& BitVec.ofInt IntKind.i64.bits (63 : Int)).toNat : Int))).toNat : Int)) = 160 := by decide +kernel
    have e2 : (160 : Int).fdiv ((2 : Int) ^ min (Int.toNat (6 : Int)) IntKind.i64.bits) = 2 := by decide +kernel
    rw [e1, e2]
    exact hR false trivial (by decide)
theorem byt_holds : Holds 89 conByt := conP_holds fun c => by
  intro F I w vals hH hv hpre
  obtain rfl : c = (160 : Int) := hpre _ rfl
  refine fun_meets1 (AllH.tok (.cons isU_holds (by kernel_rfl) (.cons siz_holds (by kernel_rfl) .nil))) [] lsByt (by kernel_rfl) (by kernel_rfl) byt_sum (fun _ => Eq.mpr (vcBytF _) ⟨fun h => absurd h (by decide), fun _ => ?_⟩) F I w vals hH hv hpre
  refine Rq.mk rfl (Rq.mk ⟨by decide, by decide⟩ (Rq.mk ⟨rfl, rfl, by decide, rfl⟩ (Rq.mk ⟨by decide, by decide⟩ (Rq.mk ⟨by decide, by decide⟩ (Rq.mk ?_ (qfin rfl ?_ rfl rfl))))))
  · show 2 ≤ maxSl
    decide
  · kernel_rfl
theorem esc_holds : Holds 75 conEsc := conP_holds fun s v => by
  rcases (show ∃ w : ByteArray, w = s from ⟨_, rfl⟩) with ⟨s, rfl⟩
  intro F I w vals hH hv hpre
  obtain ⟨rfl, hs⟩ : v = true ∧ s.size ≤ 1000000 := hpre _ rfl
  refine fun_meets0 (AllH.tok (.cons repl_holds (by kernel_rfl) (.cons byt_holds (by kernel_rfl) .nil))) [] (by kernel_rfl) (by kernel_rfl) (fun _ => Eq.mpr (vcEscF s _) ?_) F I w vals hH hv hpre
  have h1 := repS_le (s := s) (p := ⟨#[38]⟩) (q := ⟨#[38, 97, 109, 112, 59]⟩) (Nat.le_refl 1)
  have h2 := repS_le (s := repS s ⟨#[38]⟩ ⟨#[38, 97, 109, 112, 59]⟩) (p := ⟨#[194, 160]⟩) (q := ⟨#[38, 110, 98, 115, 112, 59]⟩) (show 1 ≤ 2 by decide)
  have h3 := repS_le (s := repS (repS s ⟨#[38]⟩ ⟨#[38, 97, 109, 112, 59]⟩) ⟨#[194, 160]⟩ ⟨#[38, 110, 98, 115, 112, 59]⟩) (p := ⟨#[60]⟩) (q := ⟨#[38, 108, 116, 59]⟩) (Nat.le_refl 1)
  have h4 := repS_le (s := repS (repS (repS s ⟨#[38]⟩ ⟨#[38, 97, 109, 112, 59]⟩) ⟨#[194, 160]⟩ ⟨#[38, 110, 98, 115, 112, 59]⟩) ⟨#[60]⟩ ⟨#[38, 108, 116, 59]⟩) (p := ⟨#[62]⟩) (q := ⟨#[38, 103, 116, 59]⟩) (Nat.le_refl 1)
  have z5 : (ByteArray.mk #[38, 97, 109, 112, 59]).size = 5 := rfl
  have z6 : (ByteArray.mk #[38, 110, 98, 115, 112, 59]).size = 6 := rfl
  have z4 : (ByteArray.mk #[38, 108, 116, 59]).size = 4 := rfl
  have z4' : (ByteArray.mk #[38, 103, 116, 59]).size = 4 := rfl
  rw [z5] at h1; rw [z6] at h2; rw [z4] at h3; rw [z4'] at h4
  have c0 : s.size ≤ 4000000000 := by omega
  have c1 := Nat.le_trans h1 (show s.size + s.size * 5 ≤ 4000000000 by omega)
  have c2 := Nat.le_trans h2 (show _ + _ * 6 ≤ 4000000000 by omega)
  have c3 := Nat.le_trans h3 (show _ + _ * 4 ≤ 4000000000 by omega)
  have c4 := Nat.le_trans h4 (show _ + _ * 4 ≤ 4000000000 by omega)
  exact Rq.mk ⟨c0, by decide, by decide⟩ (Rq.mk rfl (Rq.mk ⟨c1, by decide, by decide⟩ (Rq.mk ⟨c2, by decide, by decide⟩ (Rq.mk ⟨c3, by decide, by decide⟩ ⟨fun _ => Rq.mk ⟨c4, by decide, by decide⟩ (qfin rfl rfl rfl rfl), fun h => absurd h (by decide)⟩))))
theorem opn_sum : SumOK cxOpn (LL Tryz.f57 [lsOpn]) Tryz.f57.ntmps (loopAt Tryz.f57 0).1 (loopAt Tryz.f57 0).2 lsOpn := by
  intro vs bs K hs
  unfold lsOpn at hs
  simp only at hs
  split at hs
  case h_2 => exact hs.elim
  rename_i a a' m i t
  rcases (show ∃ w : List At, w = a from ⟨_, rfl⟩) with ⟨a, rfl⟩
  obtain ⟨⟨ea, rfl, rfl, ⟨hl, hv⟩, ht⟩, h⟩ := hs
  have ea : a = a' := ea.symm
  subst ea
  have hm : a.length ≤ maxSl := by unfold maxSl; omega
  refine sum_rec (σ := Nat) (fun i => [.ptr 0 0, .row .attr a, .row .attr a, .int .i64 a.length, .int .i64 (i : Nat)]) (fun i => [.bld (opF t (a.take i))]) (fun i => i ≤ a.length ∧ (a.take i).all okA = true) (fun i => a.length - i) ?_ 0 ⟨Nat.zero_le _, rfl⟩
  rintro i ⟨hi, hall⟩ R hR
  refine Eq.mpr (vcOpnB _ a a.length i _) ⟨fun h1 => ?_, fun h1 => ?_⟩
  · have hlt : i < a.length := by have := of_decide_eq_true h1; omega
    rw [rd_atA hlt]
    have split : a.take i ++ a[i] :: a.drop (i + 1) = a := by rw [← List.drop_eq_getElem_cons hlt, List.take_append_drop]
    have bad : okA a[i] = false → K .ret [.ptr 0 0, .row .attr a, .str ⟨#[]⟩, .int .i64 4] [.bld (opF t (a.take i))] := fun hb => by
      have e : opF t a = opF t (a.take i) := by
        have q := opF_app (t := t) (a[i] :: a.drop (i + 1)) hall
        rw [split, opF, if_neg (by rw [hb]; decide)] at q
        exact q
      have := h.no (List.all_eq_false.2 ⟨_, List.getElem_mem hlt, by rw [hb]; decide⟩)
      rwa [e] at this
    refine Rq.mk ⟨by omega, by omega⟩ ⟨fun h2 => bad ?_, fun h2 => ⟨fun h3 => bad ?_, fun h3 => ?_⟩⟩
    · have h2 : nameB a[i].name = false := by simpa using h2
      unfold okA; rw [h2]; rfl
    · have h3 : goodB a[i].value = false := by simpa using h3
      unfold okA; rw [h3, Bool.and_false]
    · have h2 : nameB a[i].name = true := by simpa using h2
      have h3 : goodB a[i].value = true := by simpa using h3
      have hok : okA a[i] = true := okA_iff.2 ⟨h2, h3⟩
      have b1 := nameB_le h2
      have b2 := hv _ (List.getElem_mem hlt)
      have b3 := escQ_le a[i].2
      have b4 := opF_le (a.take i) t fun x hx => hv x (List.mem_of_mem_take hx)
      rw [List.length_take] at b4
      have e : opF t (a.take (i + 1)) = opF t (a.take i) ++ atO a[i] := by rw [← take_snoc hlt, opF_app _ hall, opF, if_pos hok]; rfl
      have s1 : (ByteArray.mk (Array.mk [(32 : UInt8)])).size = 1 := rfl
      have s2 : (ByteArray.mk (Array.mk [(61 : UInt8), (34 : UInt8)])).size = 2 := rfl
      have s3 : (ByteArray.mk (Array.mk [(34 : UInt8)])).size = 1 := rfl
      have hmx : maxSl = 140737488355328 := rfl
      change a[i].1.size ≤ 24 at b1
      change a[i].2.size ≤ 1000000 at b2
      refine Rq.mk ?_ (Rq.mk ?_ (Rq.mk ⟨rfl, b2⟩ (Rq.mk ?_ (Rq.mk ?_ (Rq.mk ?_ ?_)))))
      · rw [s1]; omega
      · rw [ByteArray.size_append, s1, s2]; omega
      · simp only [ByteArray.size_append, s1, s2]; omega
      · simp only [ByteArray.size_append, s1, s2, s3]; omega
      · simp only [ByteArray.size_append, s1, s2, s3]; omega
      rw [wrap_succ hlt hm]
      have := hR (i + 1) ⟨hlt, by rw [← take_snoc hlt, List.all_append, hall, List.all_cons, hok]; rfl⟩ (by omega)
      rw [e] at this
      exact this
  · have : i = a.length := by have := of_decide_eq_false h1; omega
    subst this
    rw [List.take_length] at hall ⊢
    exact h.yes hall
theorem opn_holds : Holds 57 conOpn := conP_holds fun m a => by
  rcases (show ∃ w : ByteArray, w = m from ⟨_, rfl⟩) with ⟨m, rfl⟩
  rcases (show ∃ w : List At, w = a from ⟨_, rfl⟩) with ⟨a, rfl⟩
  refine fun_meets1 (AllH.tok (.cons nameP_holds (by kernel_rfl) (.cons goodP_holds (by kernel_rfl) (.cons esc_holds (by kernel_rfl) (.cons tw_holds (by kernel_rfl) (.cons write_holds (by kernel_rfl) (.cons writeb_holds (by kernel_rfl) (.cons string_holds (by kernel_rfl) .nil)))))))) [] lsOpn (by kernel_rfl) (by kernel_rfl) opn_sum fun hpre => Eq.mpr (vcOpnF m a _) ?_
  obtain ⟨hl, hv⟩ : oBnd a := hpre _ rfl
  have no : ∀ e, wrongE m a = e → e ≠ 0 → [AV.str (ByteArray.mk (Array.mk [])), AV.int IntKind.i64 e] = compsOf (.tup [.str (opS m a), .int .i64 (wrongE m a)]) := fun e h h0 => by
    show _ = [AV.str (opS m a), AV.int .i64 (wrongE m a)]
    unfold opS; rw [h, if_neg h0]
  have hmx : maxSl = 140737488355328 := rfl
  refine ⟨fun h => qfin rfl (no 4 ?_ (by decide)) rfl rfl, fun h => ?_⟩
  · unfold wrongE; rw [if_pos (by simpa using h)]
  have h : nameB m = true := by simpa using h
  have hm := nameB_le h
  have s1 : (ByteArray.mk (Array.mk [(60 : UInt8)])).size = 1 := rfl
  have s0 : (ByteArray.mk (Array.mk [])).size = 0 := rfl
  have hsz : (ByteArray.mk (Array.mk []) ++ (ByteArray.mk (Array.mk [(60 : UInt8)]) ++ m)).size ≤ 100 := by simp only [ByteArray.size_append, s0, s1]; omega
  have ho := opF_le a (ByteArray.mk (Array.mk []) ++ (ByteArray.mk (Array.mk [(60 : UInt8)]) ++ m)) hv
  have hw : wrongE m a = if (!(a.all okA)) = true then 4 else if twiceB a = true then 8 else if (a.length : Int) > 12 then 2 else 0 := by
    unfold wrongE; rw [if_neg (by rw [h]; decide), wrong_all]
  refine Rq.mk (by omega) (Rq.mk (by rw [ByteArray.size_append]; omega) ⟨fun hml => Rq.mk ⟨rfl, rfl, rfl, ⟨hl, hv⟩, hsz⟩ ⟨fun h1 => ⟨fun h2 => qfin rfl (no 8 ?_ (by decide)) rfl rfl, fun h2 => ⟨fun _ => ⟨fun h3 => qfin rfl (no 2 ?_ (by decide)) rfl rfl, fun h3 => Rq.mk ⟨by omega, by decide, by decide⟩ (Rq.mk ?_ (qfin rfl ?_ rfl rfl))⟩⟩⟩, fun h1 => qfin rfl (no 4 ?_ (by decide)) rfl rfl⟩⟩)
  · rw [hw, h1, if_neg (by decide), if_pos h2]
  · rw [hw, h1, if_neg (by decide), if_neg (by rw [h2]; decide), if_pos (of_decide_eq_true h3)]
  · rw [ByteArray.size_append]
    show _ + 1 ≤ _
    omega
  · rw [h1, if_neg (by decide), if_neg (by rw [h2]; decide), if_neg (of_decide_eq_false h3)] at hw
    show _ = [AV.str (opS m a), AV.int .i64 (wrongE m a)]
    unfold opS; rw [hw, if_pos rfl]
  · rw [hw, h1, if_pos (by decide)]
end Go.Proofs.YtpbpabadbipfdaaGreatDoor.AX
end
section
namespace Go.Proofs.YtpbpabadbipfdaaGreatDoor.AXP
open Go Go.Proofs.YtpbpabadbipfdaaGreatDoor.AX
def encS (c : Int) : ByteArray := bk ((encB c).map fun x => UInt8.ofNat x.toNat)
def lowB (s : ByteArray) (i : Int) : Int := if ct ((bl s).getD i.toNat (-1)) = true then (bl s).getD i.toNat (-1) - 128 else -1
def gA (s : ByteArray) (i : Int) : Int × Int × Bool := uDecL ((bl s).drop i.toNat)
/-- All characters from a place on. -/
def uFrom (s : ByteArray) (i : Int) : List Int × Bool := uAll (s.size - i.toNat) ((bl s).drop i.toNat)
def mor (b : Int) : Bool := (decide (48 ≤ b) && decide (b ≤ 58)) || b == 45
def nmR : Nat → List UInt8 → Bool
  | _, [] => true
  | i, b :: l => (smI (b.toNat : Int) || (i != 0 && mor (b.toNat : Int))) && nmR (i + 1) l
end Go.Proofs.YtpbpabadbipfdaaGreatDoor.AXP
namespace Go.Proofs.YtpbpabadbipfdaaGreatDoor.AX
open Go AXP
def conIs2 : Con := conP [.int] fun (c : Int) => { res := .bool (isC c) }
noncomputable def cxBy2 : Cx := cxT (tabLook [(96, conIs2)])
def conBy2 : Con := conP [.int] fun (c : Int) => { pre := some (isC c = true), res := .str (encS c) }
def conLow : Con := conP [.str, .int] fun (s : ByteArray) (i : Int) => { pre := some (0 ≤ i), res := .int .i64 (lowB s i) }
noncomputable def cxAt2 : Cx := cxT (tabLook [(96, conIs2), (97, conBy2), (95, conLow)])
def conAt2 : Con := conP [.str, .int] fun (s : ByteArray) (i : Int) => { pre := some (0 ≤ i ∧ i < s.size ∧ s.size ≤ 1000000), res := .agg [.int .i64 (gA s i).1, .int .i64 (gA s i).2.1, .bool (gA s i).2.2] }
noncomputable def cxOf : Cx := cxT (tabLook [(90, conAt2)])
def lsOf : LS where
  keep := [(0, .as), (2, .as), (3, .as), (4, .as)]
  left := [(2, .as), (3, .as)]
  sum := fun vs bs K => match vs, bs with
    | [.str s, .ptr 0 0, .ptr 1 0, .int .i64 i], [.box [.nil, .bool z], .box [.nil, .bool r]] => Rq (i = 0 ∧ s.size ≤ 1000000 ∧ r = true)
      (Br ((uFrom s 0).1.length == 0)
        (K (.exit 0) [.ptr 0 0, .ptr 1 0] [.box [.nil, .bool z], .box [.nil, .bool (uFrom s 0).2]])
        (K (.exit 0) [.ptr 0 0, .ptr 1 0] [.box [.nil, .bool z], .box [.own 2 0, .bool (uFrom s 0).2], .rowb 0 .int (uFrom s 0).1]))
    | _, _ => False
def conOf : Con := conP [.str] fun (s : ByteArray) => { pre := some (s.size ≤ 1000000), res := .agg [.row .int (uFrom s 0).1, .bool (uFrom s 0).2] }
def lsNm6 : LS where
  keep := [(0, .as), (3, .as)]
  left := [(0, .as), (2, .as)]
  sum := fun vs bs K => match vs, bs with
    | [.str s, .int .i64 i], [] => Rq (i = 0) (Br (nmR 0 (kb s)) (K (.exit 0) [.str s, .any] []) (K .ret [.str s, .bool false] []))
    | _, _ => False
noncomputable def cxGd6 : Cx := cxT (tabLook [(80, conOf)])
def lsGd6 : LS where
  keep := [(0, .as), (3, .as)]
  left := [(0, .as), (2, .as)]
  sum := fun vs bs K => match vs, bs with
    | [.str s, .int .i64 i], [] => Rq (i = 0) (Br (allP gd1 s) (K (.exit 0) [.str s, .any] []) (K .ret [.str s, .bool false] []))
    | _, _ => False
def conGd6 : Con := conP [.str] fun (s : ByteArray) => { pre := some (s.size ≤ 1000000), res := .bool (goodB s) }
noncomputable def cxWr6 : Cx := cxT (tabLook [(81, conNameP), (62, conGd6)])
def lsWr0 : LS where
  keep := [(1, .as), (14, .as), (15, .as), (16, .as)]
  left := [(1, .as), (4, .as)]
  sum := fun vs bs K => match vs, bs with
    | [.row .attr a, .row .attr a', .int .i64 m, .int .i64 i], [] => Rq (a' = a ∧ m = a.length ∧ i = 0 ∧ oBnd a) (Br (a.all okA) (K (.exit 0) [.row .attr a, .any] []) (K .ret [.row .attr a, .int .i64 4] []))
    | _, _ => False
def lsWr1 : LS where
  keep := [(1, .as), (31, .as), (32, .as), (33, .as)]
  left := [(1, .as), (4, .as)]
  sum := fun vs bs K => match vs, bs with
    | [.row .attr a, .row .attr a', .int .i64 m, .int .i64 i], [] => Rq (a' = a ∧ m = a.length ∧ i = 0 ∧ oBnd a) (Br (twiceB a) (K .ret [.row .attr a, .int .i64 8] []) (K (.exit 2) [.row .attr a, .any] []))
    | _, _ => False
def lsWr2 : LS where
  keep := [(1, .as), (7, .as), (8, .as), (31, .as), (32, .as), (33, .as), (38, .as), (39, .as), (40, .as)]
  left := [(1, .as), (31, .as), (32, .as), (33, .as), (4, .as)]
  sum := fun vs bs K => match vs, bs with
    | [.row .attr a, .int .i64 i, .ptr 0 0, .row .attr a1, .int .i64 m, .int .i64 j, .row .attr a', .int .i64 n, .int .i64 k], [.box [.str x, .str y]] => Rq (a' = a ∧ n = a.length ∧ k = 0 ∧ 0 ≤ i ∧ i < a.length ∧ x = (rd Ty.attr a i).name ∧ oBnd a) (Br (twI a i) (K .ret [.row .attr a, .row .attr a1, .int .i64 m, .int .i64 j, .int .i64 8] []) (K (.exit 4) [.row .attr a, .row .attr a1, .int .i64 m, .int .i64 j, .any] []))
    | _, _ => False
def conWr6 : Con := conP [.str, .row .attr] fun (m : ByteArray) (a : List At) => { pre := some (oBnd a), res := .int .i64 (wrongE m a) }
end Go.Proofs.YtpbpabadbipfdaaGreatDoor.AX
end
section
namespace Go.Proofs.YtpbpabadbipfdaaGreatDoor.AX
open Go AXP
set_option maxRecDepth 100000
theorem vcIs2F (c : Int) (Q : List AV → List Blk → List Blk → Prop) : (funA cx0 (LL Tryz.f96 []) Tryz.f96 [.int .i64 c] [] [] Q) = (
Br (decide (c ≥ (0 : Int)))
  (Br (decide (c ≤ (1114111 : Int)))
    (Br (decide (c ≥ (55296 : Int))) (Q [AV.bool !decide (c ≤ (57343 : Int))] [] []) (Q [AV.bool true] [] []))
    (Q [AV.bool false] [] []))
  (Q [AV.bool false] [] [])) := by kernel_rfl
theorem vcBy2F (c : Int) (Q : List AV → List Blk → List Blk → Prop) : (funA cxBy2 (LL Tryz.f97 []) Tryz.f97 [.int .i64 c] [] [] Q) = (
Br (!isC c) False
  (Br (decide (c < (128 : Int)))
    (Rq ([IntKind.u8.wrap c].length ≤ maxSl) (Q [AV.str (strOf [IntKind.u8.wrap c])] [] []))
    (Br (decide (c < (2048 : Int)))
      (Rq ((64 : Int) ≠ (0 : Int))
        (Rq ((64 : Int) ≠ (0 : Int))
          (Rq
            ([IntKind.u8.wrap (IntKind.i64.wrap ((192 : Int) + IntKind.i64.wrap (c.tdiv (64 : Int)))),
                  IntKind.u8.wrap (IntKind.i64.wrap ((128 : Int) + c.tmod (64 : Int)))].length ≤
              maxSl)
            (Q
              [AV.str
                  (strOf
                    [IntKind.u8.wrap (IntKind.i64.wrap ((192 : Int) + IntKind.i64.wrap (c.tdiv (64 : Int)))),
                      IntKind.u8.wrap (IntKind.i64.wrap ((128 : Int) + c.tmod (64 : Int)))])]
              [] []))))
      (Br (decide (c < (65536 : Int)))
        (Rq ((4096 : Int) ≠ (0 : Int))
          (Rq ((64 : Int) ≠ (0 : Int))
            (Rq ((64 : Int) ≠ (0 : Int))
              (Rq ((64 : Int) ≠ (0 : Int))
                (Rq
                  ([IntKind.u8.wrap (IntKind.i64.wrap ((224 : Int) + IntKind.i64.wrap (c.tdiv (4096 : Int)))),
                        IntKind.u8.wrap
                          (IntKind.i64.wrap ((128 : Int) + (IntKind.i64.wrap (c.tdiv (64 : Int))).tmod (64 : Int))),
                        IntKind.u8.wrap (IntKind.i64.wrap ((128 : Int) + c.tmod (64 : Int)))].length ≤
                    maxSl)
                  (Q
                    [AV.str
                        (strOf
                          [IntKind.u8.wrap (IntKind.i64.wrap ((224 : Int) + IntKind.i64.wrap (c.tdiv (4096 : Int)))),
                            IntKind.u8.wrap
                              (IntKind.i64.wrap ((128 : Int) + (IntKind.i64.wrap (c.tdiv (64 : Int))).tmod (64 : Int))),
                            IntKind.u8.wrap (IntKind.i64.wrap ((128 : Int) + c.tmod (64 : Int)))])]
                    [] []))))))
        (Rq ((262144 : Int) ≠ (0 : Int))
          (Rq ((4096 : Int) ≠ (0 : Int))
            (Rq ((64 : Int) ≠ (0 : Int))
              (Rq ((64 : Int) ≠ (0 : Int))
                (Rq ((64 : Int) ≠ (0 : Int))
                  (Rq ((64 : Int) ≠ (0 : Int))
                    (Rq
                      ([IntKind.u8.wrap (IntKind.i64.wrap ((240 : Int) + IntKind.i64.wrap (c.tdiv (262144 : Int)))),
                            IntKind.u8.wrap
                              (IntKind.i64.wrap
                                ((128 : Int) + (IntKind.i64.wrap (c.tdiv (4096 : Int))).tmod (64 : Int))),
                            IntKind.u8.wrap
                              (IntKind.i64.wrap ((128 : Int) + (IntKind.i64.wrap (c.tdiv (64 : Int))).tmod (64 : Int))),
                            IntKind.u8.wrap (IntKind.i64.wrap ((128 : Int) + c.tmod (64 : Int)))].length ≤
                        maxSl)
                      (Q
                        [AV.str
                            (strOf
                              [IntKind.u8.wrap
                                  (IntKind.i64.wrap ((240 : Int) + IntKind.i64.wrap (c.tdiv (262144 : Int)))),
                                IntKind.u8.wrap
                                  (IntKind.i64.wrap
                                    ((128 : Int) + (IntKind.i64.wrap (c.tdiv (4096 : Int))).tmod (64 : Int))),
                                IntKind.u8.wrap
                                  (IntKind.i64.wrap
                                    ((128 : Int) + (IntKind.i64.wrap (c.tdiv (64 : Int))).tmod (64 : Int))),
                                IntKind.u8.wrap (IntKind.i64.wrap ((128 : Int) + c.tmod (64 : Int)))])]
                        [] [])))))))))))) := by kernel_rfl
theorem vcLowF (s : ByteArray) (i : Int) (Q : List AV → List Blk → List Blk → Prop) : (funA cx0 (LL Tryz.f95 []) Tryz.f95 [.str s, .int .i64 i] [] [] Q) = (
Br (decide (i ≥ (↑s.size : Int))) (Gv (s.size ≤ maxSl) (Q [AV.int IntKind.i64 (-1 : Int)] [] []))
  (Rq ((0 : Int) ≤ i ∧ i < (↑s.size : Int))
    (Br (decide ((↑(s.get! i.toNat).toNat : Int) < (128 : Int)))
      (Gv (s.size ≤ maxSl) (Q [AV.int IntKind.i64 (-1 : Int)] [] []))
      (Rq ((0 : Int) ≤ i ∧ i < (↑s.size : Int))
        (Gv (s.size ≤ maxSl)
          (Br (decide ((↑(s.get! i.toNat).toNat : Int) > (191 : Int))) (Q [AV.int IntKind.i64 (-1 : Int)] [] [])
            (Rq ((0 : Int) ≤ i ∧ i < (↑s.size : Int))
              (Q
                [AV.int IntKind.i64 (IntKind.i64.wrap (IntKind.i64.wrap (↑(s.get! i.toNat).toNat : Int) - (128 : Int)))]
                [] [])))))))) := by kernel_rfl
theorem vcOf0 (s : ByteArray) (z r : Bool) (i : Int) (K : Ex → List AV → List Blk → Prop) : (bodyA cxOf (LL Tryz.f80 [lsOf]) Tryz.f80.ntmps (loopAt Tryz.f80 0).1 (loopAt Tryz.f80 0).2 lsOf.keep lsOf.left K [.str s, .ptr 0 0, .ptr 1 0, .int .i64 i] [.box [.nil, .bool z], .box [.nil, .bool r]]) = (
Gv (s.size ≤ maxSl)
  (Br (decide (i < (↑s.size : Int)))
    (Rq ((0 : Int) ≤ i ∧ i < (↑s.size : Int) ∧ s.size ≤ (1000000 : Nat))
      (Rq ([(gA s i).1].length * (8 : Nat) ≤ maxSl)
        (Br r
          (K Ex.norm
            [AV.str s, AV.ptr (0 : Nat) (0 : Nat), AV.ptr ((0 : Nat) + (1 : Nat)) (0 : Nat),
              AV.int IntKind.i64 (IntKind.i64.wrap (i + (gA s i).2.1))]
            [Blk.box [AV.nil, AV.bool z],
              Blk.box [AV.own ((0 : Nat) + (1 : Nat) + (1 : Nat)) (0 : Nat), AV.bool (gA s i).2.2],
              Blk.rowb (0 : Nat) Ty.int [(gA s i).1]])
          (K Ex.norm
            [AV.str s, AV.ptr (0 : Nat) (0 : Nat), AV.ptr ((0 : Nat) + (1 : Nat)) (0 : Nat),
              AV.int IntKind.i64 (IntKind.i64.wrap (i + (gA s i).2.1))]
            [Blk.box [AV.nil, AV.bool z], Blk.box [AV.own ((0 : Nat) + (1 : Nat) + (1 : Nat)) (0 : Nat), AV.bool false],
              Blk.rowb (0 : Nat) Ty.int [(gA s i).1]]))))
    (K (Ex.exit (0 : Nat)) [AV.ptr (0 : Nat) (0 : Nat), AV.ptr ((0 : Nat) + (1 : Nat)) (0 : Nat)]
      [Blk.box [AV.nil, AV.bool z], Blk.box [AV.nil, AV.bool r]]))) := by kernel_rfl
theorem vcOf1 (s : ByteArray) (z r : Bool) (i : Int) (l : List Int) (K : Ex → List AV → List Blk → Prop) : (bodyA cxOf (LL Tryz.f80 [lsOf]) Tryz.f80.ntmps (loopAt Tryz.f80 0).1 (loopAt Tryz.f80 0).2 lsOf.keep lsOf.left K [.str s, .ptr 0 0, .ptr 1 0, .int .i64 i] [.box [.nil, .bool z], .box [.own 2 0, .bool r], .rowb 0 .int l]) = (
Gv (s.size ≤ maxSl)
  (Br (decide (i < (↑s.size : Int)))
    (Rq ((0 : Int) ≤ i ∧ i < (↑s.size : Int) ∧ s.size ≤ (1000000 : Nat))
      (Rq ((l.length + [(gA s i).1].length) * (8 : Nat) ≤ maxSl)
        (Br r
          (K Ex.norm
            [AV.str s, AV.ptr (0 : Nat) (0 : Nat), AV.ptr ((0 : Nat) + (1 : Nat)) (0 : Nat),
              AV.int IntKind.i64 (IntKind.i64.wrap (i + (gA s i).2.1))]
            [Blk.box [AV.nil, AV.bool z],
              Blk.box [AV.own ((0 : Nat) + (1 : Nat) + (1 : Nat)) (0 : Nat), AV.bool (gA s i).2.2],
              Blk.rowb (0 : Nat) Ty.int (l ++ [(gA s i).1])])
          (K Ex.norm
            [AV.str s, AV.ptr (0 : Nat) (0 : Nat), AV.ptr ((0 : Nat) + (1 : Nat)) (0 : Nat),
              AV.int IntKind.i64 (IntKind.i64.wrap (i + (gA s i).2.1))]
            [Blk.box [AV.nil, AV.bool z], Blk.box [AV.own ((0 : Nat) + (1 : Nat) + (1 : Nat)) (0 : Nat), AV.bool false],
              Blk.rowb (0 : Nat) Ty.int (l ++ [(gA s i).1])]))))
    (K (Ex.exit (0 : Nat)) [AV.ptr (0 : Nat) (0 : Nat), AV.ptr ((0 : Nat) + (1 : Nat)) (0 : Nat)]
      [Blk.box [AV.nil, AV.bool z], Blk.box [AV.own ((0 : Nat) + (1 : Nat) + (1 : Nat)) (0 : Nat), AV.bool r],
        Blk.rowb (0 : Nat) Ty.int l]))) := by kernel_rfl
theorem vcOfF (s : ByteArray) (Q : List AV → List Blk → List Blk → Prop) : (funA cxOf (LL Tryz.f80 [lsOf]) Tryz.f80 [.str s] [] [.row .int, .as] Q) = (
Rq ((0 : Int) = (0 : Int) ∧ s.size ≤ (1000000 : Nat) ∧ true = true)
  (Br ((uFrom s (0 : Int)).1.length == (0 : Nat)) (Q [AV.agg [AV.row Ty.int [], AV.bool (uFrom s (0 : Int)).2]] [] [])
    (Q [AV.agg [AV.row Ty.int (uFrom s (0 : Int)).1, AV.bool (uFrom s (0 : Int)).2]] [] []))) := by kernel_rfl
theorem vcNm6B (s : ByteArray) (i : Int) (K : Ex → List AV → List Blk → Prop) : (bodyA cx0 (LL Tryz.f81 [lsNm6]) Tryz.f81.ntmps (loopAt Tryz.f81 0).1 (loopAt Tryz.f81 0).2 lsNm6.keep lsNm6.left K [.str s, .int .i64 i] []) = (
Gv (s.size ≤ maxSl)
  (Br (decide (i < (↑s.size : Int)))
    (Rq ((0 : Int) ≤ i ∧ i < (↑s.size : Int))
      (Br (decide ((↑(s.get! i.toNat).toNat : Int) ≥ (97 : Int)))
        (Rq ((0 : Int) ≤ i ∧ i < (↑s.size : Int))
          (Rq ((0 : Int) ≤ i ∧ i < (↑s.size : Int))
            (Br (decide ((↑(s.get! i.toNat).toNat : Int) ≥ (48 : Int)))
              (Rq ((0 : Int) ≤ i ∧ i < (↑s.size : Int))
                (Br (decide ((↑(s.get! i.toNat).toNat : Int) ≤ (58 : Int)))
                  (Br (!decide ((↑(s.get! i.toNat).toNat : Int) ≤ (122 : Int)))
                    (Br (i == (0 : Int)) (K Ex.ret [AV.str s, AV.bool false] [])
                      (K Ex.norm [AV.str s, AV.int IntKind.i64 (IntKind.i64.wrap (i + (1 : Int)))] []))
                    (K Ex.norm [AV.str s, AV.int IntKind.i64 (IntKind.i64.wrap (i + (1 : Int)))] []))
                  (Rq ((0 : Int) ≤ i ∧ i < (↑s.size : Int))
                    (Br (!decide ((↑(s.get! i.toNat).toNat : Int) ≤ (122 : Int)))
                      (Br (i == (0 : Int)) (K Ex.ret [AV.str s, AV.bool false] [])
                        (Br (!(↑(s.get! i.toNat).toNat : Int) == (45 : Int)) (K Ex.ret [AV.str s, AV.bool false] [])
                          (K Ex.norm [AV.str s, AV.int IntKind.i64 (IntKind.i64.wrap (i + (1 : Int)))] [])))
                      (K Ex.norm [AV.str s, AV.int IntKind.i64 (IntKind.i64.wrap (i + (1 : Int)))] [])))))
              (Rq ((0 : Int) ≤ i ∧ i < (↑s.size : Int))
                (Br (!decide ((↑(s.get! i.toNat).toNat : Int) ≤ (122 : Int)))
                  (Br (i == (0 : Int)) (K Ex.ret [AV.str s, AV.bool false] [])
                    (Br (!(↑(s.get! i.toNat).toNat : Int) == (45 : Int)) (K Ex.ret [AV.str s, AV.bool false] [])
                      (K Ex.norm [AV.str s, AV.int IntKind.i64 (IntKind.i64.wrap (i + (1 : Int)))] [])))
                  (K Ex.norm [AV.str s, AV.int IntKind.i64 (IntKind.i64.wrap (i + (1 : Int)))] []))))))
        (Rq ((0 : Int) ≤ i ∧ i < (↑s.size : Int))
          (Br (decide ((↑(s.get! i.toNat).toNat : Int) ≥ (48 : Int)))
            (Rq ((0 : Int) ≤ i ∧ i < (↑s.size : Int))
              (Br (decide ((↑(s.get! i.toNat).toNat : Int) ≤ (58 : Int)))
                (Br (i == (0 : Int)) (K Ex.ret [AV.str s, AV.bool false] [])
                  (K Ex.norm [AV.str s, AV.int IntKind.i64 (IntKind.i64.wrap (i + (1 : Int)))] []))
                (Rq ((0 : Int) ≤ i ∧ i < (↑s.size : Int))
                  (Br (i == (0 : Int)) (K Ex.ret [AV.str s, AV.bool false] [])
                    (Br (!(↑(s.get! i.toNat).toNat : Int) == (45 : Int)) (K Ex.ret [AV.str s, AV.bool false] [])
                      (K Ex.norm [AV.str s, AV.int IntKind.i64 (IntKind.i64.wrap (i + (1 : Int)))] []))))))
            (Rq ((0 : Int) ≤ i ∧ i < (↑s.size : Int))
              (Br (i == (0 : Int)) (K Ex.ret [AV.str s, AV.bool false] [])
                (Br (!(↑(s.get! i.toNat).toNat : Int) == (45 : Int)) (K Ex.ret [AV.str s, AV.bool false] [])
                  (K Ex.norm [AV.str s, AV.int IntKind.i64 (IntKind.i64.wrap (i + (1 : Int)))] []))))))))
    (K (Ex.exit (0 : Nat)) [AV.str s, AV.any] []))) := by kernel_rfl
theorem vcNm6F (s : ByteArray) (Q : List AV → List Blk → List Blk → Prop) : (funA cx0 (LL Tryz.f81 [lsNm6]) Tryz.f81 [.str s] [] [] Q) = (
Rq ((0 : Int) = (0 : Int))
  (Br (nmR (0 : Nat) (kb s))
    (Br (decide ((↑s.size : Int) > (0 : Int)))
      (Gv (s.size ≤ maxSl) (Gv (s.size ≤ maxSl) (Q [AV.bool (decide ((↑s.size : Int) < (25 : Int)))] [] [])))
      (Gv (s.size ≤ maxSl) (Q [AV.bool false] [] [])))
    (Q [AV.bool false] [] []))) := by kernel_rfl
theorem vcGd6B (s : ByteArray) (i : Int) (K : Ex → List AV → List Blk → Prop) : (bodyA cxGd6 (LL Tryz.f62 [lsGd6]) Tryz.f62.ntmps (loopAt Tryz.f62 0).1 (loopAt Tryz.f62 0).2 lsGd6.keep lsGd6.left K [.str s, .int .i64 i] []) = (
Gv (s.size ≤ maxSl)
  (Br (decide (i < (↑s.size : Int)))
    (Rq ((0 : Int) ≤ i ∧ i < (↑s.size : Int))
      (Br ((↑(s.get! i.toNat).toNat : Int) == (0 : Int)) (K Ex.ret [AV.str s, AV.bool false] [])
        (Rq ((0 : Int) ≤ i ∧ i < (↑s.size : Int))
          (Br ((↑(s.get! i.toNat).toNat : Int) == (13 : Int)) (K Ex.ret [AV.str s, AV.bool false] [])
            (K Ex.norm [AV.str s, AV.int IntKind.i64 (IntKind.i64.wrap (i + (1 : Int)))] [])))))
    (K (Ex.exit (0 : Nat)) [AV.str s, AV.any] []))) := by kernel_rfl
theorem vcGd6F (s : ByteArray) (Q : List AV → List Blk → List Blk → Prop) : (funA cxGd6 (LL Tryz.f62 [lsGd6]) Tryz.f62 [.str s] [] [] Q) = (
Rq ((0 : Int) = (0 : Int))
  (Br (allP gd1 s) (Rq (s.size ≤ (1000000 : Nat)) (Q [AV.bool (uFrom s (0 : Int)).2] [] [])) (Q [AV.bool false] [] []))) := by kernel_rfl
theorem vcWr0 (a : List At) (m i : Int) (K : Ex → List AV → List Blk → Prop) : (bodyA cxWr6 (LL Tryz.f63 [lsWr0, lsWr1, lsWr2]) Tryz.f63.ntmps (loopAt Tryz.f63 0).1 (loopAt Tryz.f63 0).2 lsWr0.keep lsWr0.left K [.row .attr a, .row .attr a, .int .i64 m, .int .i64 i] []) = (
Br (decide (i < m))
  (Rq ((0 : Int) ≤ i ∧ i < (↑a.length : Int))
    (Br (!nameB (rd Ty.attr a i).1) (K Ex.ret [AV.row Ty.attr a, AV.int IntKind.i64 (4 : Int)] [])
      (Rq ((rd Ty.attr a i).2.size ≤ (1000000 : Nat))
        (Br (!goodB (rd Ty.attr a i).2) (K Ex.ret [AV.row Ty.attr a, AV.int IntKind.i64 (4 : Int)] [])
          (K Ex.norm
            [AV.row Ty.attr a, AV.row Ty.attr a, AV.int IntKind.i64 m,
              AV.int IntKind.i64 (IntKind.i64.wrap (i + (1 : Int)))]
            [])))))
  (K (Ex.exit (0 : Nat)) [AV.row Ty.attr a, AV.any] [])) := by kernel_rfl
theorem vcWr1 (a : List At) (m i : Int) (K : Ex → List AV → List Blk → Prop) : (bodyA cxWr6 (LL Tryz.f63 [lsWr0, lsWr1, lsWr2]) Tryz.f63.ntmps (loopAt Tryz.f63 1).1 (loopAt Tryz.f63 1).2 lsWr1.keep lsWr1.left K [.row .attr a, .row .attr a, .int .i64 m, .int .i64 i] []) = (
Br (decide (i < m))
  (Rq ((0 : Int) ≤ i ∧ i < (↑a.length : Int))
    (Gv (a.length ≤ maxSl)
      (Rq
        (a = a ∧
          (↑a.length : Int) = (↑a.length : Int) ∧
            (0 : Int) = (0 : Int) ∧
              (0 : Int) ≤ i ∧ i < (↑a.length : Int) ∧ (rd Ty.attr a i).1 = (rd Ty.attr a i).1 ∧ oBnd a)
        (Br (twI a i) (K Ex.ret [AV.row Ty.attr a, AV.int IntKind.i64 (8 : Int)] [])
          (K Ex.norm
            [AV.row Ty.attr a, AV.row Ty.attr a, AV.int IntKind.i64 m,
              AV.int IntKind.i64 (IntKind.i64.wrap (i + (1 : Int)))]
            [])))))
  (K (Ex.exit (2 : Nat)) [AV.row Ty.attr a, AV.any] [])) := by kernel_rfl
theorem vcWr2 (a a1 : List At) (x y : ByteArray) (i m j n k : Int) (K : Ex → List AV → List Blk → Prop) : (bodyA cxWr6 (LL Tryz.f63 [lsWr0, lsWr1, lsWr2]) Tryz.f63.ntmps (loopAt Tryz.f63 2).1 (loopAt Tryz.f63 2).2 lsWr2.keep lsWr2.left K [.row .attr a, .int .i64 i, .ptr 0 0, .row .attr a1, .int .i64 m, .int .i64 j, .row .attr a, .int .i64 n, .int .i64 k] [.box [.str x, .str y]]) = (
Br (decide (k < n))
  (Rq ((0 : Int) ≤ k ∧ k < (↑a.length : Int))
    (Br (decide (k < i))
      (Br (eqS x (rd Ty.attr a k).1)
        (K Ex.ret
          [AV.row Ty.attr a, AV.row Ty.attr a1, AV.int IntKind.i64 m, AV.int IntKind.i64 j,
            AV.int IntKind.i64 (8 : Int)]
          [])
        (K Ex.norm
          [AV.row Ty.attr a, AV.int IntKind.i64 i, AV.ptr (0 : Nat) (0 : Nat), AV.row Ty.attr a1, AV.int IntKind.i64 m,
            AV.int IntKind.i64 j, AV.row Ty.attr a, AV.int IntKind.i64 n,
            AV.int IntKind.i64 (IntKind.i64.wrap (k + (1 : Int)))]
          [Blk.box [AV.str x, AV.str y]]))
      (K Ex.norm
        [AV.row Ty.attr a, AV.int IntKind.i64 i, AV.ptr (0 : Nat) (0 : Nat), AV.row Ty.attr a1, AV.int IntKind.i64 m,
          AV.int IntKind.i64 j, AV.row Ty.attr a, AV.int IntKind.i64 n,
          AV.int IntKind.i64 (IntKind.i64.wrap (k + (1 : Int)))]
        [Blk.box [AV.str x, AV.str y]])))
  (K (Ex.exit (4 : Nat)) [AV.row Ty.attr a, AV.row Ty.attr a1, AV.int IntKind.i64 m, AV.int IntKind.i64 j, AV.any] [])) := by kernel_rfl
theorem vcWrF (m : ByteArray) (a : List At) (Q : List AV → List Blk → List Blk → Prop) : (funA cxWr6 (LL Tryz.f63 [lsWr0, lsWr1, lsWr2]) Tryz.f63 [.str m, .row .attr a] [] [] Q) = (
Br (!nameB m) (Q [AV.int IntKind.i64 (4 : Int)] [] [])
  (Gv (a.length ≤ maxSl)
    (Rq (a = a ∧ (↑a.length : Int) = (↑a.length : Int) ∧ (0 : Int) = (0 : Int) ∧ oBnd a)
      (Br (a.all okA)
        (Gv (a.length ≤ maxSl)
          (Rq (a = a ∧ (↑a.length : Int) = (↑a.length : Int) ∧ (0 : Int) = (0 : Int) ∧ oBnd a)
            (Br (twiceB a) (Q [AV.int IntKind.i64 (8 : Int)] [] [])
              (Gv (a.length ≤ maxSl)
                (Br (decide ((↑a.length : Int) > (12 : Int))) (Q [AV.int IntKind.i64 (2 : Int)] [] [])
                  (Q [AV.int IntKind.i64 (0 : Int)] [] []))))))
        (Q [AV.int IntKind.i64 (4 : Int)] [] []))))) := by kernel_rfl
end Go.Proofs.YtpbpabadbipfdaaGreatDoor.AX
end
section
namespace Go.Proofs.YtpbpabadbipfdaaGreatDoor.AXP
open Go Go.Proofs.YtpbpabadbipfdaaGreatDoor.AX
theorem nm_iff {i : Nat} {b : Int} : (smI b || (i != 0 && mor b)) = true ↔ (97 ≤ b ∧ b ≤ 122) ∨ (i ≠ 0 ∧ ((48 ≤ b ∧ b ≤ 58) ∨ b = 45)) := by
  unfold smI mor
  simp only [Bool.or_eq_true, Bool.and_eq_true, decide_eq_true_eq, beq_iff_eq, bne_iff_ne, ne_eq]
theorem kb_drop {s : ByteArray} {i : Nat} (h : i < s.size) : (kb s).drop i = s.get! i :: (kb s).drop (i + 1) := by
  have hl : i < (kb s).length := by rw [kb_len]; exact h
  have e := kb_get h
  rw [List.getElem?_eq_getElem hl] at e
  injection e with e
  rw [List.drop_eq_getElem_cons hl, e]
theorem nmR_pos : ∀ (l : List UInt8) (i : Nat), 0 < i → nmR i l = l.all fun b => smallB b || (decide (48 ≤ b.toNat) && decide (b.toNat ≤ 57)) || b == 45 || b == 58
  | [], _, _ => rfl
  | b :: l, i, h => by
    rw [nmR, nmR_pos l (i + 1) (by omega), List.all_cons]
    congr 1
    have hi : (i != 0) = true := by simp; omega
    rw [hi, Bool.true_and]
    unfold smI mor smallB
    have h45 : ((b.toNat : Int) == 45) = (b == 45) := by
      rw [Bool.eq_iff_iff, beq_iff_eq, beq_iff_eq]
      exact ⟨fun e => UInt8.toNat_inj.1 (by have : b.toNat = 45 := by omega
                                            rw [this]; rfl), fun e => by rw [e]; rfl⟩
    have h58 : (b == 58) = decide (b.toNat = 58) := by
      rw [Bool.eq_iff_iff, beq_iff_eq, decide_eq_true_eq]
      exact ⟨fun e => by rw [e]; rfl, fun e => UInt8.toNat_inj.1 (by rw [e]; rfl)⟩
    rw [h45, h58]
    have e1 : decide (97 ≤ (b.toNat : Int)) = decide (97 ≤ b.toNat) := by congr 1; apply propext; omega
    have e2 : decide ((b.toNat : Int) ≤ 122) = decide (b.toNat ≤ 122) := by congr 1; apply propext; omega
    have e3 : (decide (48 ≤ (b.toNat : Int)) && decide ((b.toNat : Int) ≤ 58)) = ((decide (48 ≤ b.toNat) && decide (b.toNat ≤ 57)) || decide (b.toNat = 58)) := by
      rw [Bool.eq_iff_iff]
      simp only [Bool.and_eq_true, Bool.or_eq_true, decide_eq_true_eq]
      omega
    rw [e1, e2, e3]
    generalize (decide (97 ≤ b.toNat) && decide (b.toNat ≤ 122)) = p
    generalize (decide (48 ≤ b.toNat) && decide (b.toNat ≤ 57)) = q
    generalize decide (b.toNat = 58) = r
    generalize (b == 45) = t
    cases p <;> cases q <;> cases r <;> cases t <;> rfl
theorem nameB_nm (s : ByteArray) : nameB s = (nmR 0 (kb s) && decide (0 < s.size) && decide (s.size < 25)) := by
  unfold nameB
  rw [show decide (s.size ≤ 24) = decide (s.size < 25) by congr 1; apply propext; omega]
  cases hk : kb s with
  | nil =>
    have h0 : s.size = 0 := by rw [← kb_size, hk]; rfl
    rw [h0]; rfl
  | cons b l =>
    rw [nmR, nmR_pos l 1 (by decide), List.all_cons]
    have e1 : smI (b.toNat : Int) = smallB b := by
      unfold smI smallB
      rw [show decide (97 ≤ (b.toNat : Int)) = decide (97 ≤ b.toNat) by congr 1; apply propext; omega, show decide ((b.toNat : Int) ≤ 122) = decide (b.toNat ≤ 122) by congr 1; apply propext; omega]
    rw [e1]
    have e0 : (b :: l).getD 0 0 = b := rfl
    rw [e0]
    generalize (l.all fun b => smallB b || (decide (48 ≤ b.toNat) && decide (b.toNat ≤ 57)) || b == 45 || b == 58) = w
    generalize decide (0 < s.size) = p
    generalize decide (s.size < 25) = q
    cases smallB b <;> cases w <;> cases p <;> cases q <;> simp
theorem uFrom_zero (s : ByteArray) : (uFrom s 0).2 = rightU s := rfl
theorem uFrom_end {s : ByteArray} {i : Nat} (h : s.size ≤ i) : uFrom s i = ([], true) := by
  unfold uFrom
  rw [Int.toNat_natCast, show s.size - i = 0 by omega]; rfl
theorem gA_n {s : ByteArray} {i : Nat} (h : i < s.size) : 1 ≤ (gA s i).2.1 ∧ i + (gA s i).2.1 ≤ s.size := by
  have hl : ((bl s).drop i).length = s.size - i := by rw [List.length_drop, bl_length]
  have := uDec_n (l := (bl s).drop i) (fun e => by rw [e] at hl; simp at hl; omega)
  rw [hl] at this
  unfold gA
  rw [Int.toNat_natCast]
  omega
theorem uFrom_step {s : ByteArray} {i : Nat} (h : i < s.size) : uFrom s i = ((gA s i).1 :: (uFrom s (i + (gA s i).2.1)).1, (gA s i).2.2 && (uFrom s (i + (gA s i).2.1)).2) := by
  have hn := gA_n h
  have hl : ((bl s).drop i).length = s.size - i := by rw [List.length_drop, bl_length]
  obtain ⟨f, hf⟩ : ∃ f, s.size - i = f + 1 := ⟨s.size - i - 1, by omega⟩
  have e0 : uFrom s i = uAll (f + 1) ((bl s).drop i) := by unfold uFrom; rw [Int.toNat_natCast, hf]
  have e1 : uFrom s (i + (gA s i).2.1) = uAll f (((bl s).drop i).drop (gA s i).2.1.toNat) := by
    unfold uFrom
    rw [show ((i : Int) + (gA s i).2.1).toNat = i + (gA s i).2.1.toNat by omega, List.drop_drop]
    exact uAll_fuel _ _ _ (by rw [List.length_drop, bl_length]; exact Nat.le_refl _) (by rw [List.length_drop, bl_length]; omega)
  rw [e0, e1, uAll, if_neg (fun e => by rw [e] at hl; simp at hl; omega)]
  unfold gA
  rw [Int.toNat_natCast]
end Go.Proofs.YtpbpabadbipfdaaGreatDoor.AXP
namespace Go.Proofs.YtpbpabadbipfdaaGreatDoor.AX
open Go AXP
set_option maxRecDepth 100000
theorem is2_holds : Holds 96 conIs2 := conP_holds fun c => by
  rcases (show ∃ w : Int, w = c from ⟨_, rfl⟩) with ⟨c, rfl⟩
  refine fun_meets0 tok0 [] (by kernel_rfl) (by kernel_rfl) fun _ => Eq.mpr (vcIs2F c _) ?_
  have e : ∀ b, isC c = b → [AV.bool b] = compsOf (.bool (isC c)) := fun b h => by rw [h]; rfl
  have hd : isC c = (decide (c ≥ 0) && decide (c ≤ 1114111) && !(decide (c ≥ 55296) && decide (c ≤ 57343))) := rfl
  refine ⟨fun h1 => ⟨fun h2 => ⟨fun h3 => qfin rfl (e _ ?_) rfl rfl, fun h3 => qfin rfl (e _ ?_) rfl rfl⟩, fun h2 => qfin rfl (e _ ?_) rfl rfl⟩, fun h1 => qfin rfl (e _ ?_) rfl rfl⟩
  · rw [hd, h1, h2, h3]; rfl
  · rw [hd, h1, h2, h3]; rfl
  · rw [hd, h1, h2]; rfl
  · rw [hd, h1]; rfl
theorem by2_holds : Holds 97 conBy2 := conP_holds fun c => by
  rcases (show ∃ w : Int, w = c from ⟨_, rfl⟩) with ⟨c, rfl⟩
  refine fun_meets0 (AllH.tok (.cons is2_holds (by kernel_rfl) .nil)) [] (by kernel_rfl) (by kernel_rfl) fun hpre => Eq.mpr (vcBy2F c _) ?_
  have hc : isC c = true := hpre _ rfl
  obtain ⟨c0, c1, _⟩ := isC_iff.1 hc
  have t64 : c.tdiv 64 = c / 64 := Int.tdiv_eq_ediv_of_nonneg c0
  have t4 : c.tdiv 4096 = c / 4096 := Int.tdiv_eq_ediv_of_nonneg c0
  have t26 : c.tdiv 262144 = c / 262144 := Int.tdiv_eq_ediv_of_nonneg c0
  have m64 : c.tmod 64 = c % 64 := Int.tmod_eq_emod_of_nonneg c0
  have w : ∀ x : Int, 0 ≤ x → x ≤ 2000000 → IntKind.i64.wrap x = x := fun x h0 h1 => wrap_id' (by omega) (by omega)
  have u : ∀ x : Int, 0 ≤ x → x < 256 → IntKind.u8.wrap x = x := fun x h0 h1 => by rw [IntKind.wrap_u8]; omega
  have n64 : (c / 64).tmod 64 = c / 64 % 64 := Int.tmod_eq_emod_of_nonneg (by omega)
  have n4 : (c / 4096).tmod 64 = c / 4096 % 64 := Int.tmod_eq_emod_of_nonneg (by omega)
  rw [t64, t4, t26, m64, w (c / 64) (by omega) (by omega), w (c / 4096) (by omega) (by omega), w (c / 262144) (by omega) (by omega), n64, n4]
  have r1 := Int.emod_nonneg c (show (64 : Int) ≠ 0 by decide)
  have r2 := Int.emod_lt_of_pos c (show (0 : Int) < 64 by decide)
  have r3 := Int.emod_nonneg (c / 64) (show (64 : Int) ≠ 0 by decide)
  have r4 := Int.emod_lt_of_pos (c / 64) (show (0 : Int) < 64 by decide)
  have r5 := Int.emod_nonneg (c / 4096) (show (64 : Int) ≠ 0 by decide)
  have r6 := Int.emod_lt_of_pos (c / 4096) (show (0 : Int) < 64 by decide)
  refine ⟨fun h => (by rw [hc] at h; cases h), fun _ => ⟨fun h1 => Rq.mk (show 1 ≤ maxSl by decide) (qfin rfl ?_ rfl rfl), fun h1 => ⟨fun h2 => Rq.mk (by decide) (Rq.mk (by decide) (Rq.mk (show 2 ≤ maxSl by decide) (qfin rfl ?_ rfl rfl))), fun h2 => ⟨fun h3 => Rq.mk (by decide) (Rq.mk (by decide) (Rq.mk (by decide) (Rq.mk (by decide) (Rq.mk (show 3 ≤ maxSl by decide) (qfin rfl ?_ rfl rfl))))), fun h3 => Rq.mk (by decide) (Rq.mk (by decide) (Rq.mk (by decide) (Rq.mk (by decide) (Rq.mk (by decide) (Rq.mk (by decide) (Rq.mk (show 4 ≤ maxSl by decide) (qfin rfl ?_ rfl rfl)))))))⟩⟩⟩⟩
  all_goals show _ = [AV.str (encS c)]
  all_goals unfold encS encB
  · have h1 := of_decide_eq_true h1
    rw [if_pos h1, u c (by omega) (by omega)]; rfl
  · have h1 := of_decide_eq_false h1
    have h2 := of_decide_eq_true h2
    rw [if_neg h1, if_pos h2, w (192 + c / 64) (by omega) (by omega), w (128 + c % 64) (by omega) (by omega), u (192 + c / 64) (by omega) (by omega), u (128 + c % 64) (by omega) (by omega)]; rfl
  · have h1 := of_decide_eq_false h1
    have h2 := of_decide_eq_false h2
    have h3 := of_decide_eq_true h3
    rw [if_neg h1, if_neg h2, if_pos h3, w (224 + c / 4096) (by omega) (by omega), w (128 + c % 64) (by omega) (by omega), w (128 + c / 64 % 64) (by omega) (by omega), u (224 + c / 4096) (by omega) (by omega), u (128 + c % 64) (by omega) (by omega), u (128 + c / 64 % 64) (by omega) (by omega)]; rfl
  · have h1 := of_decide_eq_false h1
    have h2 := of_decide_eq_false h2
    have h3 := of_decide_eq_false h3
    rw [if_neg h1, if_neg h2, if_neg h3, w (240 + c / 262144) (by omega) (by omega), w (128 + c % 64) (by omega) (by omega), w (128 + c / 64 % 64) (by omega) (by omega), w (128 + c / 4096 % 64) (by omega) (by omega), u (240 + c / 262144) (by omega) (by omega), u (128 + c % 64) (by omega) (by omega), u (128 + c / 64 % 64) (by omega) (by omega), u (128 + c / 4096 % 64) (by omega) (by omega)]; rfl
theorem low_holds : Holds 95 conLow := conP_holds fun s i => by
  rcases (show ∃ w : ByteArray, w = s from ⟨_, rfl⟩) with ⟨s, rfl⟩
  rcases (show ∃ w : Int, w = i from ⟨_, rfl⟩) with ⟨i, rfl⟩
  refine fun_meets0 tok0 [] (by kernel_rfl) (by kernel_rfl) fun hpre => Eq.mpr (vcLowF s i _) ?_
  have h0 : 0 ≤ i := hpre _ rfl
  obtain ⟨i, rfl⟩ := Int.eq_ofNat_of_zero_le h0
  have no : ct ((bl s).getD i (-1)) = false → [AV.int .i64 (-1)] = compsOf (.int .i64 (lowB s i)) := fun h => by
    show _ = [AV.int .i64 (lowB s i)]
    unfold lowB; rw [Int.toNat_natCast, if_neg (by rw [h]; decide)]
  refine ⟨fun h => ⟨fun _ => qfin rfl (no ?_) rfl rfl⟩, fun h => ?_⟩
  · have := of_decide_eq_true h
    rw [bl_no (by omega)]; rfl
  have h : i < s.size := by have := of_decide_eq_false h; omega
  rw [bl_at h] at no
  have hb : (s.get! i).toNat < 256 := UInt8.toNat_lt _
  rw [Int.toNat_natCast]
  refine Rq.mk ⟨by omega, by omega⟩ ⟨fun h1 => ⟨fun _ => qfin rfl (no ?_) rfl rfl⟩, fun h1 => Rq.mk ⟨by omega, by omega⟩ ⟨fun _ => ⟨fun h2 => qfin rfl (no ?_) rfl rfl, fun h2 => Rq.mk ⟨by omega, by omega⟩ (qfin rfl ?_ rfl rfl)⟩⟩⟩
  · have h1 := of_decide_eq_true h1
    rw [Bool.eq_false_iff]; intro q; have := ct_iff.1 q; omega
  · have h2 := of_decide_eq_true h2
    rw [Bool.eq_false_iff]; intro q; have := ct_iff.1 q; omega
  · have h1 := of_decide_eq_false h1
    have h2 := of_decide_eq_false h2
    show _ = [AV.int .i64 (lowB s i)]
    unfold lowB
    rw [Int.toNat_natCast, bl_at h, if_pos (ct_iff.2 (by omega)), wrap_id' (i := ((s.get! i).toNat : Int)) (by omega) (by omega), wrap_id' (by omega) (by omega)]
def blOf (z r : Bool) : List Int → List Blk
  | [] => [.box [.nil, .bool z], .box [.nil, .bool r]]
  | x :: l => [.box [.nil, .bool z], .box [.own 2 0, .bool r], .rowb 0 .int (x :: l)]
theorem of_sum : SumOK cxOf (LL Tryz.f80 [lsOf]) Tryz.f80.ntmps (loopAt Tryz.f80 0).1 (loopAt Tryz.f80 0).2 lsOf := by
  intro vs bs K hs
  unfold lsOf at hs
  simp only at hs
  split at hs
  case h_2 => exact hs.elim
  rename_i s i z r
  obtain ⟨⟨rfl, hsz, rfl⟩, h⟩ := hs
  refine sum_rec (σ := Nat × Bool × List Int) (fun q => [.str s, .ptr 0 0, .ptr 1 0, .int .i64 (q.1 : Nat)]) (fun q => blOf z q.2.1 q.2.2) (fun q => q.1 ≤ s.size ∧ q.2.2 ++ (uFrom s q.1).1 = (uFrom s 0).1 ∧ (q.2.1 && (uFrom s q.1).2) = (uFrom s 0).2 ∧ q.2.2.length ≤ q.1) (fun q => s.size - q.1) ?_ (0, true, []) ⟨Nat.zero_le _, rfl, rfl, Nat.le_refl _⟩
  rintro ⟨i, r, acc⟩ ⟨h1, h2, h3, h4⟩ R hR
  dsimp only at h1 h2 h3 h4 hR ⊢
  have hmx : maxSl = 140737488355328 := rfl
  have fin : s.size ≤ i → K (.exit 0) [.ptr 0 0, .ptr 1 0] (blOf z r acc) := fun q => by
    rw [uFrom_end q, List.append_nil] at h2
    rw [uFrom_end q, Bool.and_true] at h3
    rw [← h2, ← h3] at h
    cases acc with
    | nil => exact h.yes rfl
    | cons x l => exact h.no rfl
  have next : ∀ hi : i < s.size, ∀ b, b = (r && (gA s i).2.2) → R [.str s, .ptr 0 0, .ptr 1 0, .int .i64 (IntKind.i64.wrap ((i : Int) + (gA s i).2.1))] (blOf z b (acc ++ [(gA s i).1])) := fun hi b hb => by
    have hn := gA_n hi
    have st := uFrom_step hi
    have ew : IntKind.i64.wrap ((i : Int) + (gA s i).2.1) = ((i + (gA s i).2.1.toNat : Nat) : Int) := by rw [wrap_id'] <;> omega
    have e2 : ((i : Int) + (gA s i).2.1) = ((i + (gA s i).2.1.toNat : Nat) : Int) := by omega
    rw [e2] at st
    rw [ew]
    rw [st] at h2 h3
    refine hR (i + (gA s i).2.1.toNat, b, acc ++ [(gA s i).1]) ⟨by dsimp only; omega, ?_, ?_, ?_⟩ (by dsimp only; omega)
    · dsimp only; rw [List.append_assoc]; exact h2
    · dsimp only; rw [hb, Bool.and_assoc]; exact h3
    · dsimp only; rw [List.length_append]; simp only [List.length_cons, List.length_nil]; omega
  cases acc with
  | nil =>
    refine Eq.mpr (vcOf0 s z r i _) ⟨fun _ => ⟨fun q => ?_, fun q => fin (by have := of_decide_eq_false q; omega)⟩⟩
    have hi : i < s.size := by have := of_decide_eq_true q; omega
    refine Rq.mk ⟨by omega, by omega, hsz⟩ (Rq.mk (show 1 * 8 ≤ maxSl by decide) ⟨fun q2 => ?_, fun q2 => ?_⟩)
    · subst q2; exact next hi _ (by simp)
    · subst q2; exact next hi _ (by simp)
  | cons x l =>
    refine Eq.mpr (vcOf1 s z r i (x :: l) _) ⟨fun _ => ⟨fun q => ?_, fun q => fin (by have := of_decide_eq_false q; omega)⟩⟩
    have hi : i < s.size := by have := of_decide_eq_true q; omega
    refine Rq.mk ⟨by omega, by omega, hsz⟩ (Rq.mk ?_ ⟨fun q2 => ?_, fun q2 => ?_⟩)
    · simp only [List.length_cons, List.length_nil] at h4 ⊢; omega
    · subst q2; exact next hi _ (by simp)
    · subst q2; exact next hi _ (by simp)
theorem of_of (hA : Holds 90 conAt2) : Holds 80 conOf := conP_holds fun s => by
  rcases (show ∃ w : ByteArray, w = s from ⟨_, rfl⟩) with ⟨s, rfl⟩
  refine fun_meets1 (AllH.tok (.cons hA (by kernel_rfl) .nil)) [.row .int, .as] lsOf (by kernel_rfl) (by kernel_rfl) of_sum fun hpre => Eq.mpr (vcOfF s _) ?_
  have hs : s.size ≤ 1000000 := hpre _ rfl
  refine Rq.mk ⟨rfl, hs, rfl⟩ ⟨fun h => qfin rfl ?_ rfl rfl, fun h => qfin rfl rfl rfl rfl⟩
  have h := List.eq_nil_of_length_eq_zero (of_decide_eq_true h)
  show _ = [AV.agg [AV.row Ty.int (uFrom s 0).1, AV.bool (uFrom s 0).2]]
  rw [h]
theorem nm6_sum : SumOK cx0 (LL Tryz.f81 [lsNm6]) Tryz.f81.ntmps (loopAt Tryz.f81 0).1 (loopAt Tryz.f81 0).2 lsNm6 := by
  intro vs bs K hs
  unfold lsNm6 at hs
  simp only at hs
  split at hs
  case h_2 => exact hs.elim
  rename_i s i
  obtain ⟨rfl, h⟩ := hs
  refine sum_rec (σ := Nat) (fun i => [.str s, .int .i64 (i : Nat)]) (fun _ => []) (fun i => i ≤ s.size ∧ nmR i ((kb s).drop i) = nmR 0 (kb s)) (fun i => s.size - i) ?_ 0 ⟨Nat.zero_le _, rfl⟩
  rintro i ⟨hi, he⟩ R hR
  refine Eq.mpr (vcNm6B s i _) ⟨fun hm => ⟨fun q => ?_, fun q => ?_⟩⟩
  · have hlt : i < s.size := by have := of_decide_eq_true q; omega
    rw [kb_drop hlt, nmR] at he
    rw [Int.toNat_natCast, wrap_succ hlt hm]
    generalize hb : ((s.get! i).toNat : Int) = b at he ⊢
    have ret : ¬ ((97 ≤ b ∧ b ≤ 122) ∨ (i ≠ 0 ∧ ((48 ≤ b ∧ b ≤ 58) ∨ b = 45))) → K .ret [.str s, .bool false] [] := fun g => by
      have : (smI b || (i != 0 && mor b)) = false := Bool.eq_false_iff.2 fun q => g (nm_iff.1 q)
      rw [this, Bool.false_and] at he
      exact h.no he.symm
    have nxt : ((97 ≤ b ∧ b ≤ 122) ∨ (i ≠ 0 ∧ ((48 ≤ b ∧ b ≤ 58) ∨ b = 45))) → R [.str s, .int .i64 ((i + 1 : Nat) : Int)] [] := fun g => by
      rw [nm_iff.2 g, Bool.true_and] at he
      exact hR (i + 1) ⟨hlt, he⟩ (by omega)
    clear he hR h
    repeat' (first | refine Rq.mk ⟨by omega, by omega⟩ ?_ | refine Br.mk (fun _ => ?_) (fun _ => ?_) | fail)
    all_goals first
      | exact ret (by simp only [decide_eq_true_eq, decide_eq_false_iff_not, Bool.not_eq_true', Bool.not_eq_false', beq_iff_eq, beq_eq_false_iff_ne, ne_eq] at *; omega)
      | exact nxt (by simp only [decide_eq_true_eq, decide_eq_false_iff_not, Bool.not_eq_true', Bool.not_eq_false', beq_iff_eq, beq_eq_false_iff_ne, ne_eq] at *; omega)
  · have : i = s.size := by have := of_decide_eq_false q; omega
    subst this
    rw [List.drop_of_length_le (by rw [kb_size]; exact Nat.le_refl _)] at he
    exact h.yes he.symm
theorem nm6_holds : Holds 81 conNameP := conP_holds fun s => by
  rcases (show ∃ w : ByteArray, w = s from ⟨_, rfl⟩) with ⟨s, rfl⟩
  refine fun_meets1 tok0 [] lsNm6 (by kernel_rfl) (by kernel_rfl) nm6_sum fun _ => Eq.mpr (vcNm6F s _) ?_
  have e : ∀ b, nameB s = b → [AV.bool b] = compsOf (.bool (nameB s)) := fun b h => by rw [h]; rfl
  have hd := nameB_nm s
  refine Rq.mk rfl ⟨fun h => ⟨fun h1 => ⟨fun _ => ⟨fun _ => qfin rfl (e _ ?_) rfl rfl⟩⟩, fun h1 => ⟨fun _ => qfin rfl (e _ ?_) rfl rfl⟩⟩, fun h => qfin rfl (e _ ?_) rfl rfl⟩
  · have h1 : 0 < s.size := by have := of_decide_eq_true h1; omega
    rw [hd, h, decide_eq_true h1, Bool.true_and, Bool.true_and]
    rw [Bool.eq_iff_iff, decide_eq_true_eq, decide_eq_true_eq]; omega
  · have h1 : ¬ 0 < s.size := by have := of_decide_eq_false h1; omega
    rw [hd, decide_eq_false h1, Bool.and_false, Bool.false_and]
  · rw [hd, h, Bool.false_and, Bool.false_and]
theorem gd6_sum : SumOK cxGd6 (LL Tryz.f62 [lsGd6]) Tryz.f62.ntmps (loopAt Tryz.f62 0).1 (loopAt Tryz.f62 0).2 lsGd6 := by
  intro vs bs K hs
  unfold lsGd6 at hs
  simp only at hs
  split at hs
  case h_2 => exact hs.elim
  rename_i s i
  obtain ⟨rfl, h⟩ := hs
  refine sum_rec (σ := Nat) (fun i => [.str s, .int .i64 (i : Nat)]) (fun _ => []) (fun i => i ≤ s.size ∧ ((kb s).take i).all (fun b => gd1 (b.toNat : Int)) = true) (fun i => s.size - i) ?_ 0 ⟨Nat.zero_le _, rfl⟩
  rintro i ⟨hi, ha⟩ R hR
  refine Eq.mpr (vcGd6B s i _) ⟨fun hm => ⟨fun q => ?_, fun q => ?_⟩⟩
  · have hlt : i < s.size := by have := of_decide_eq_true q; omega
    rw [Int.toNat_natCast, wrap_succ hlt hm]
    refine Rq.mk ⟨by omega, by omega⟩ ⟨fun h1 => h.no (allP_no hlt ?_), fun h1 => Rq.mk ⟨by omega, by omega⟩ ⟨fun h2 => h.no (allP_no hlt ?_), fun h2 => hR (i + 1) ⟨hlt, ?_⟩ (by omega)⟩⟩
    · have h1 : ((s.get! i).toNat : Int) = 0 := by simpa using h1
      unfold gd1; rw [h1]; rfl
    · have h2 : ((s.get! i).toNat : Int) = 13 := by simpa using h2
      unfold gd1; rw [h2]; rfl
    · have e : gd1 ((s.get! i).toNat : Int) = true := by unfold gd1 bne; rw [h1, h2]; rfl
      rw [allP_take hlt, ha, e]; rfl
  · have : i = s.size := by have := of_decide_eq_false q; omega
    subst this
    rw [List.take_of_length_le (by rw [kb_len]; exact Nat.le_refl _)] at ha
    exact h.yes ha
theorem gd6_of (hO : Holds 80 conOf) : Holds 62 conGd6 := conP_holds fun s => by
  rcases (show ∃ w : ByteArray, w = s from ⟨_, rfl⟩) with ⟨s, rfl⟩
  refine fun_meets1 (AllH.tok (.cons hO (by kernel_rfl) .nil)) [] lsGd6 (by kernel_rfl) (by kernel_rfl) gd6_sum fun hpre => Eq.mpr (vcGd6F s _) ?_
  have hs : s.size ≤ 1000000 := hpre _ rfl
  have hd : goodB s = (rightU s && allP gd1 s) := by unfold goodB; rw [allP_gd]
  have e : ∀ b, goodB s = b → [AV.bool b] = compsOf (.bool (goodB s)) := fun b h => by rw [h]; rfl
  refine Rq.mk rfl ⟨fun h => Rq.mk hs (qfin rfl (e _ ?_) rfl rfl), fun h => qfin rfl (e _ ?_) rfl rfl⟩
  · rw [hd, h, Bool.and_true]; rfl
  · rw [hd, h, Bool.and_false]
theorem wr0_sum : SumOK cxWr6 (LL Tryz.f63 [lsWr0, lsWr1, lsWr2]) Tryz.f63.ntmps (loopAt Tryz.f63 0).1 (loopAt Tryz.f63 0).2 lsWr0 := by
  intro vs bs K hs
  unfold lsWr0 at hs
  simp only at hs
  split at hs
  case h_2 => exact hs.elim
  rename_i a a' m i
  rcases (show ∃ w : List At, w = a from ⟨_, rfl⟩) with ⟨a, rfl⟩
  obtain ⟨⟨ea, rfl, rfl, hl, hv⟩, h⟩ := hs
  have ea : a = a' := ea.symm
  subst ea
  have hm : a.length ≤ maxSl := by unfold maxSl; omega
  refine sum_rec (σ := Nat) (fun i => [.row .attr a, .row .attr a, .int .i64 a.length, .int .i64 (i : Nat)]) (fun _ => []) (fun i => i ≤ a.length ∧ (a.take i).all okA = true) (fun i => a.length - i) ?_ 0 ⟨Nat.zero_le _, rfl⟩
  rintro i ⟨hi, hall⟩ R hR
  refine Eq.mpr (vcWr0 a a.length i _) ⟨fun h1 => ?_, fun h1 => ?_⟩
  · have hlt : i < a.length := by have := of_decide_eq_true h1; omega
    rw [rd_atA hlt]
    have bad : okA a[i] = false → K .ret [.row .attr a, .int .i64 4] [] := fun hb => h.no (List.all_eq_false.2 ⟨_, List.getElem_mem hlt, by rw [hb]; decide⟩)
    refine Rq.mk ⟨by omega, by omega⟩ ⟨fun h2 => bad ?_, fun h2 => Rq.mk (hv _ (List.getElem_mem hlt)) ⟨fun h3 => bad ?_, fun h3 => ?_⟩⟩
    · have h2 : nameB a[i].name = false := by simpa using h2
      unfold okA; rw [h2]; rfl
    · have h3 : goodB a[i].value = false := by simpa using h3
      unfold okA; rw [h3, Bool.and_false]
    · have h2 : nameB a[i].name = true := by simpa using h2
      have h3 : goodB a[i].value = true := by simpa using h3
      rw [wrap_succ hlt hm]
      exact hR (i + 1) ⟨hlt, by rw [← take_snoc hlt, List.all_append, hall, List.all_cons, okA_iff.2 ⟨h2, h3⟩]; rfl⟩ (by omega)
  · have : i = a.length := by have := of_decide_eq_false h1; omega
    subst this
    rw [List.take_length] at hall
    exact h.yes hall
theorem wr1_sum : SumOK cxWr6 (LL Tryz.f63 [lsWr0, lsWr1, lsWr2]) Tryz.f63.ntmps (loopAt Tryz.f63 1).1 (loopAt Tryz.f63 1).2 lsWr1 := by
  intro vs bs K hs
  unfold lsWr1 at hs
  simp only at hs
  split at hs
  case h_2 => exact hs.elim
  rename_i a a' m i
  rcases (show ∃ w : List At, w = a from ⟨_, rfl⟩) with ⟨a, rfl⟩
  obtain ⟨⟨ea, rfl, rfl, hb⟩, h⟩ := hs
  have ea : a = a' := ea.symm
  subst ea
  have hl := hb.1
  have hm : a.length ≤ maxSl := by unfold maxSl; omega
  refine sum_rec (σ := Nat) (fun i => [.row .attr a, .row .attr a, .int .i64 a.length, .int .i64 (i : Nat)]) (fun _ => []) (fun i => i ≤ a.length ∧ twiceB (a.take i) = false) (fun i => a.length - i) ?_ 0 ⟨Nat.zero_le _, rfl⟩
  rintro i ⟨hi, ht⟩ R hR
  refine Eq.mpr (vcWr1 a a.length i _) ⟨fun h1 => ?_, fun h1 => ?_⟩
  · have hlt : i < a.length := by have := of_decide_eq_true h1; omega
    have e := twI_eq hlt
    rw [ht, Bool.false_or] at e
    refine Rq.mk ⟨by omega, by omega⟩ ⟨fun _ => Rq.mk ⟨rfl, rfl, rfl, by omega, by omega, rfl, hb⟩ ⟨fun h2 => h.yes ?_, fun h2 => ?_⟩⟩
    · rw [h2] at e
      have := twice_app _ (a.drop (i + 1)) e
      rwa [List.take_append_drop] at this
    · rw [wrap_succ hlt hm]
      exact hR (i + 1) ⟨hlt, by rw [e, h2]⟩ (by omega)
  · have : i = a.length := by have := of_decide_eq_false h1; omega
    subst this
    rw [List.take_length] at ht
    exact h.no ht
theorem wr2_sum : SumOK cxWr6 (LL Tryz.f63 [lsWr0, lsWr1, lsWr2]) Tryz.f63.ntmps (loopAt Tryz.f63 2).1 (loopAt Tryz.f63 2).2 lsWr2 := by
  intro vs bs K hs
  unfold lsWr2 at hs
  simp only at hs
  split at hs
  case h_2 => exact hs.elim
  rename_i a i a1 m j a' n k x y
  rcases (show ∃ w : List At, w = a from ⟨_, rfl⟩) with ⟨a, rfl⟩
  obtain ⟨⟨ea, rfl, rfl, h0, hi, hx, hb⟩, h⟩ := hs
  have ea : a = a' := ea.symm
  subst ea
  subst hx
  have hl := hb.1
  have hm : a.length ≤ maxSl := by unfold maxSl; omega
  obtain ⟨i, rfl⟩ := Int.eq_ofNat_of_zero_le h0
  refine sum_rec (σ := Nat) (fun k => [.row .attr a, .int .i64 i, .ptr 0 0, .row .attr a1, .int .i64 m, .int .i64 j, .row .attr a, .int .i64 a.length, .int .i64 (k : Nat)]) (fun _ => [.box [.str (rd Ty.attr a i).name, .str y]]) (fun k => k ≤ a.length ∧ (((a.take i).take k).any fun b => eqS (rd Ty.attr a i).name b.name) = false) (fun k => a.length - k) ?_ 0 ⟨Nat.zero_le _, rfl⟩
  rintro k ⟨hk, ht⟩ R hR
  refine Eq.mpr (vcWr2 a a1 _ y i m j a.length k _) ⟨fun h1 => ?_, fun h1 => ?_⟩
  · have hlt : k < a.length := by have := of_decide_eq_true h1; omega
    rw [wrap_succ hlt hm]
    refine Rq.mk ⟨by omega, by omega⟩ ⟨fun h2 => ?_, fun h2 => hR (k + 1) ⟨hlt, ?_⟩ (by omega)⟩
    · have hki : k < i := by have := of_decide_eq_true h2; omega
      have hkl : k < (a.take i).length := by rw [List.length_take]; omega
      have e : (((a.take i).take (k + 1)).any fun b => eqS (rd Ty.attr a i).name b.name) = eqS (rd Ty.attr a i).name (rd Ty.attr a k).name := by
        rw [← take_snoc hkl, List.any_append, ht, Bool.false_or, List.any_cons, List.any_nil, Bool.or_false, rd_atA hlt, List.getElem_take]
      refine ⟨fun h3 => h.yes ?_, fun h3 => hR (k + 1) ⟨hlt, e.trans h3⟩ (by omega)⟩
      have h3 : eqS (rd Ty.attr a i).name (rd Ty.attr a k).name = true := h3
      unfold twI
      rw [Int.toNat_natCast, List.any_eq_true]
      rw [h3, List.any_eq_true] at e
      obtain ⟨z, hz, q⟩ := e
      exact ⟨z, List.mem_of_mem_take hz, q⟩
    · have hki : i ≤ k := by have := of_decide_eq_false h2; omega
      rw [List.take_of_length_le (by rw [List.length_take]; omega)] at ht ⊢
      exact ht
  · have hge : a.length ≤ k := by have := of_decide_eq_false h1; omega
    rw [List.take_of_length_le (by rw [List.length_take]; omega)] at ht
    exact h.no (by unfold twI; rw [Int.toNat_natCast]; exact ht)
end Go.Proofs.YtpbpabadbipfdaaGreatDoor.AX
end
section
namespace Go.Proofs.YtpbpabadbipfdaaGreatDoor.AXP
open Go Go.Proofs.YtpbpabadbipfdaaGreatDoor.AX
theorem bl_kb (s : ByteArray) : bl s = (kb s).map fun b => (b.toNat : Int) := rfl
theorem bl_inj {a b : ByteArray} (h : bl a = bl b) : a = b := by
  rw [bl_kb, bl_kb] at h
  exact kb_inj ((List.map_inj_right (fun x y q => UInt8.toNat_inj.1 (by omega))).1 h)
theorem bl_encS {c : Int} (h : isC c = true) : bl (encS c) = encB c := by
  rw [bl_kb]
  unfold encS
  rw [kb_bk, List.map_map]
  have hr := encB_range h
  have : ∀ l : List Int, (∀ x ∈ l, 0 ≤ x ∧ x ≤ 255) → l.map ((fun b : UInt8 => (b.toNat : Int)) ∘ fun x => UInt8.ofNat x.toNat) = l := by
    intro l
    induction l with
    | nil => intro _; rfl
    | cons x l ih =>
      intro hl
      have hx := hl x (.head _)
      rw [List.map_cons, ih fun y hy => hl y (.tail _ hy)]
      congr 1
      show ((UInt8.ofNat x.toNat).toNat : Int) = x
      rw [u8_of (by omega)]; omega
  exact this _ hr
theorem encS_size (c : Int) : (encS c).size = (encB c).length := by unfold encS; rw [bk_size, List.length_map]
end Go.Proofs.YtpbpabadbipfdaaGreatDoor.AXP
namespace Go.Proofs.YtpbpabadbipfdaaGreatDoor.AX
open Go AXP
set_option maxRecDepth 100000
def at2T (s : ByteArray) (i : Int) (Q : List AV → List Blk → List Blk → Prop) (c : Int) : Prop :=
  Br (!isC c) (Q [AV.agg [AV.int IntKind.i64 (65533 : Int), AV.int IntKind.i64 (1 : Int), AV.bool false]] [] [])
    (Rq (isC c = true)
      (Br (decide (IntKind.i64.wrap ((s.size : Int) - i) < ((encS c).size : Int)))
        (Gv (s.size ≤ maxSl) (Gv ((encS c).size ≤ maxSl) (Q [AV.agg [AV.int IntKind.i64 (65533 : Int), AV.int IntKind.i64 (1 : Int), AV.bool false]] [] [])))
        (Rq ((0 : Int) ≤ i ∧ i ≤ IntKind.i64.wrap (i + ((encS c).size : Int)) ∧ IntKind.i64.wrap (i + ((encS c).size : Int)) ≤ (s.size : Int))
          (Gv (s.size ≤ maxSl) (Gv ((encS c).size ≤ maxSl) (Gv ((encS c).size ≤ maxSl)
            (Br (!eqS (s.extract i.toNat (IntKind.i64.wrap (i + ((encS c).size : Int))).toNat) (encS c))
              (Q [AV.agg [AV.int IntKind.i64 (65533 : Int), AV.int IntKind.i64 (1 : Int), AV.bool false]] [] [])
              (Gv ((encS c).size ≤ maxSl) (Q [AV.agg [AV.int IntKind.i64 c, AV.int IntKind.i64 ((encS c).size : Int), AV.bool true]] [] [])))))))))
def at2b (s : ByteArray) (i : Int) : Int := IntKind.i64.wrap ((s.get! i.toNat).toNat : Int)
def at2l (s : ByteArray) (i j : Int) : Int := lowB s (IntKind.i64.wrap (i + j))
def at2n3 (s : ByteArray) (i : Int) (Q : List AV → List Blk → List Blk → Prop) : Prop :=
  Br (decide (at2b s i ≥ (240 : Int))) (Br (decide (at2b s i < (248 : Int))) (Br (decide (at2l s i 1 ≥ (0 : Int))) (Br (decide (at2l s i 2 ≥ (0 : Int))) (Br (decide (at2l s i 3 ≥ (0 : Int)))
    (at2T s i Q (IntKind.i64.wrap (IntKind.i64.wrap (IntKind.i64.wrap (IntKind.i64.wrap ((262144 : Int) * IntKind.i64.wrap (at2b s i - (240 : Int))) + IntKind.i64.wrap ((4096 : Int) * at2l s i 1)) + IntKind.i64.wrap ((64 : Int) * at2l s i 2)) + at2l s i 3)))
    (at2T s i Q (-1))) (at2T s i Q (-1))) (at2T s i Q (-1))) (at2T s i Q (-1))) (at2T s i Q (-1))
def at2n2 (s : ByteArray) (i : Int) (Q : List AV → List Blk → List Blk → Prop) : Prop :=
  Br (decide (at2b s i ≥ (224 : Int))) (Br (decide (at2b s i < (240 : Int))) (Br (decide (at2l s i 1 ≥ (0 : Int))) (Br (decide (at2l s i 2 ≥ (0 : Int)))
    (at2T s i Q (IntKind.i64.wrap (IntKind.i64.wrap (IntKind.i64.wrap ((4096 : Int) * IntKind.i64.wrap (at2b s i - (224 : Int))) + IntKind.i64.wrap ((64 : Int) * at2l s i 1)) + at2l s i 2)))
    (at2n3 s i Q)) (at2n3 s i Q)) (at2n3 s i Q)) (at2n3 s i Q)
def at2n1 (s : ByteArray) (i : Int) (Q : List AV → List Blk → List Blk → Prop) : Prop :=
  Br (decide (at2b s i ≥ (192 : Int))) (Br (decide (at2b s i < (224 : Int))) (Br (decide (at2l s i 1 ≥ (0 : Int)))
    (at2T s i Q (IntKind.i64.wrap (IntKind.i64.wrap ((64 : Int) * IntKind.i64.wrap (at2b s i - (192 : Int))) + at2l s i 1)))
    (at2n2 s i Q)) (at2n2 s i Q)) (at2n2 s i Q)
theorem vcAt2F (s : ByteArray) (i : Int) (Q : List AV → List Blk → List Blk → Prop) : (funA cxAt2 (LL Tryz.f90 []) Tryz.f90 [.str s, .int .i64 i] [] [] Q) = (
    Rq ((0 : Int) ≤ i ∧ i < (s.size : Int)) (Rq ((0 : Int) ≤ IntKind.i64.wrap (i + (1 : Int))) (Rq ((0 : Int) ≤ IntKind.i64.wrap (i + (2 : Int))) (Rq ((0 : Int) ≤ IntKind.i64.wrap (i + (3 : Int)))
      (Br (decide (at2b s i < (128 : Int))) (at2T s i Q (at2b s i)) (at2n1 s i Q)))))) := by kernel_rfl
theorem at2T_ok {s : ByteArray} {i : Nat} (h : i < s.size) (hs : s.size ≤ 1000000) (Q : List AV → List Blk → List Blk → Prop) (c : Int)
    (hQ : ∀ r : Int × Int × Bool, uSt ((bl s).drop i) c = r → Q [AV.agg [AV.int IntKind.i64 r.1, AV.int IntKind.i64 r.2.1, AV.bool r.2.2]] [] []) : at2T s i Q c := by
  have hl : ((bl s).drop i).length = s.size - i := by rw [List.length_drop, bl_length]
  unfold at2T
  refine Br.mk (fun h1 => hQ uBad ?_) fun h1 => ?_
  · have h1 : ¬ isC c = true := by simpa using h1
    exact uSt_no h1
  have h1 : isC c = true := by simpa using h1
  have hz := encS_size c
  have hen := encB_length c
  have e1 : IntKind.i64.wrap ((s.size : Int) - (i : Int)) = ((s.size - i : Nat) : Int) := by rw [wrap_id'] <;> omega
  have e2 : IntKind.i64.wrap ((i : Int) + ((encS c).size : Int)) = ((i + (encS c).size : Nat) : Int) := by rw [wrap_id'] <;> omega
  rw [e1, e2]
  refine Rq.mk h1 (Br.mk (fun h2 => Gv.mk fun _ => Gv.mk fun _ => hQ uBad ?_) fun h2 => ?_)
  · have h2 := of_decide_eq_true h2
    unfold uSt
    rw [if_neg]
    rintro ⟨_, q⟩
    have := congrArg List.length q
    rw [List.length_take, hl] at this
    omega
  have h2 := of_decide_eq_false h2
  refine Rq.mk ⟨by omega, by omega, by omega⟩ (Gv.mk fun _ => Gv.mk fun _ => Gv.mk fun _ => ?_)
  rw [Int.toNat_natCast, Int.toNat_natCast]
  have hx : eqS (s.extract i (i + (encS c).size)) (encS c) = true ↔ ((bl s).drop i).take (encB c).length = encB c := by
    rw [eqS_iff]
    constructor
    · intro q
      have := congrArg bl q
      rw [bl_extract, bl_encS h1, hz, Nat.add_sub_cancel_left] at this
      exact this
    · intro q
      apply bl_inj
      rw [bl_extract, bl_encS h1, hz, Nat.add_sub_cancel_left]
      exact q
  refine Br.mk (fun h3 => hQ uBad ?_) fun h3 => Gv.mk fun _ => hQ (c, ((encS c).size : Int), true) ?_
  · have h3 : ¬ eqS (s.extract i (i + (encS c).size)) (encS c) = true := by simpa using h3
    unfold uSt
    rw [if_neg fun q => h3 (hx.2 q.2)]
  · have h3 : eqS (s.extract i (i + (encS c).size)) (encS c) = true := by simpa using h3
    unfold uSt
    rw [if_pos ⟨h1, hx.1 h3⟩, hz]
theorem at2_holds : Holds 90 conAt2 := conP_holds fun s i => by
  rcases (show ∃ w : ByteArray, w = s from ⟨_, rfl⟩) with ⟨s, rfl⟩
  rcases (show ∃ w : Int, w = i from ⟨_, rfl⟩) with ⟨i, rfl⟩
  refine fun_meets0 (AllH.tok (.cons is2_holds (by kernel_rfl) (.cons by2_holds (by kernel_rfl) (.cons low_holds (by kernel_rfl) .nil)))) [] (by kernel_rfl) (by kernel_rfl) fun hpre => Eq.mpr (vcAt2F s i _) ?_
  obtain ⟨h0, hi, hs⟩ : 0 ≤ i ∧ i < s.size ∧ s.size ≤ 1000000 := hpre _ rfl
  obtain ⟨i, rfl⟩ := Int.eq_ofNat_of_zero_le h0
  have hi : i < s.size := by omega
  have w1 : IntKind.i64.wrap ((i : Int) + 1) = ((i + 1 : Nat) : Int) := by rw [wrap_id'] <;> omega
  have w2 : IntKind.i64.wrap ((i : Int) + 2) = ((i + 2 : Nat) : Int) := by rw [wrap_id'] <;> omega
  have w3 : IntKind.i64.wrap ((i : Int) + 3) = ((i + 3 : Nat) : Int) := by rw [wrap_id'] <;> omega
  refine Rq.mk ⟨h0, by omega⟩ (Rq.mk (by rw [w1]; omega) (Rq.mk (by rw [w2]; omega) (Rq.mk (by rw [w3]; omega) ?_)))
  have x0 : at2b s i = ((bl s).drop i).getD 0 (-1) := by
    have hb : (s.get! i).toNat < 256 := UInt8.toNat_lt _
    unfold at2b
    rw [drop_getD, Nat.add_zero, bl_at hi, Int.toNat_natCast, wrap_id'] <;> omega
  have xj : ∀ j : Nat, IntKind.i64.wrap ((i : Int) + (j : Int)) = ((i + j : Nat) : Int) → at2l s i j = if ct (((bl s).drop i).getD j (-1)) = true then ((bl s).drop i).getD j (-1) - 128 else -1 := fun j hj => by
    unfold at2l lowB
    rw [hj, Int.toNat_natCast, drop_getD]
  have x1 := xj 1 w1
  have x2 := xj 2 w2
  have x3 := xj 3 w3
  have r0 : 0 ≤ ((bl s).drop i).getD 0 (-1) ∧ ((bl s).drop i).getD 0 (-1) ≤ 255 := by
    have hb : (s.get! i).toNat < 256 := UInt8.toNat_lt _
    rw [drop_getD, Nat.add_zero, bl_at hi]; omega
  have key : ∀ c, c = cOf (((bl s).drop i).getD 0 (-1)) (((bl s).drop i).getD 1 (-1)) (((bl s).drop i).getD 2 (-1)) (((bl s).drop i).getD 3 (-1)) → at2T s i (FinQ { pre := some (0 ≤ (i : Int) ∧ (i : Int) < s.size ∧ s.size ≤ 1000000), res := .agg [.int .i64 (gA s i).1, .int .i64 (gA s i).2.1, .bool (gA s i).2.2] }) c := fun c hc => by
    refine at2T_ok hi hs _ c fun r hr => ?_
    rw [hc, uSt_cOf r0.1] at hr
    have : gA s i = r := by unfold gA; rw [Int.toNat_natCast]; exact hr
    rw [this]
    exact qfin rfl rfl rfl rfl
  unfold at2n1 at2n2 at2n3
  change at2l s i 1 = _ at x1
  change at2l s i 2 = _ at x2
  change at2l s i 3 = _ at x3
  rw [x0, x1, x2, x3]
  generalize ((bl s).drop i).getD 0 (-1) = b0 at *
  generalize ((bl s).drop i).getD 1 (-1) = b1 at *
  generalize ((bl s).drop i).getD 2 (-1) = b2 at *
  generalize ((bl s).drop i).getD 3 (-1) = b3 at *
  clear x0 x1 x2 x3 xj
  have w : ∀ x : Int, -10000000 ≤ x → x ≤ 10000000 → IntKind.i64.wrap x = x := fun x h0 h1 => wrap_id' (by omega) (by omega)
  have lt : ∀ b : Int, (if ct b = true then b - 128 else -1) ≥ 0 ↔ ct b = true := fun b => by
    by_cases q : ct b = true
    · rw [if_pos q]
      have := ct_iff.1 q
      exact ⟨fun _ => q, fun _ => by omega⟩
    · rw [if_neg q]
      exact ⟨fun h => absurd h (by decide), fun h => absurd h q⟩
  have lp : ∀ b : Int, ct b = true → (if ct b = true then b - 128 else -1) = b - 128 ∧ 0 ≤ b - 128 ∧ b - 128 ≤ 63 := fun b q => by
    have := ct_iff.1 q
    exact ⟨if_pos q, by omega, by omega⟩
  unfold cOf at key
  refine Br.mk (fun a1 => key _ ?_) fun a1 => ?_
  · rw [if_pos (of_decide_eq_true a1)]
  have a1 := of_decide_eq_false a1
  rw [if_neg a1] at key
  have n3 : ¬ (192 ≤ b0 ∧ b0 < 224 ∧ ct b1 = true) → ¬ (224 ≤ b0 ∧ b0 < 240 ∧ ct b1 = true ∧ ct b2 = true) → Br (decide (b0 ≥ (240 : Int))) (Br (decide (b0 < (248 : Int))) (Br (decide ((if ct b1 = true then b1 - 128 else -1) ≥ (0 : Int))) (Br (decide ((if ct b2 = true then b2 - 128 else -1) ≥ (0 : Int))) (Br (decide ((if ct b3 = true then b3 - 128 else -1) ≥ (0 : Int)))
    (at2T s i _ (IntKind.i64.wrap (IntKind.i64.wrap (IntKind.i64.wrap (IntKind.i64.wrap ((262144 : Int) * IntKind.i64.wrap (b0 - (240 : Int))) + IntKind.i64.wrap ((4096 : Int) * (if ct b1 = true then b1 - 128 else -1))) + IntKind.i64.wrap ((64 : Int) * (if ct b2 = true then b2 - 128 else -1))) + (if ct b3 = true then b3 - 128 else -1))))
    (at2T s i _ (-1))) (at2T s i _ (-1))) (at2T s i _ (-1))) (at2T s i _ (-1))) (at2T s i _ (-1)) := fun q1 q2 => by
    rw [if_neg q1, if_neg q2] at key
    have no : ¬ (240 ≤ b0 ∧ b0 < 248 ∧ ct b1 = true ∧ ct b2 = true ∧ ct b3 = true) → at2T s i _ (-1) := fun g => key _ (by rw [if_neg g])
    refine Br.mk (fun d1 => Br.mk (fun d2 => Br.mk (fun d3 => Br.mk (fun d4 => Br.mk (fun d5 => key _ ?_) fun d5 => no fun g => ?_) fun d4 => no fun g => ?_) fun d3 => no fun g => ?_) fun d2 => no fun g => ?_) fun d1 => no fun g => ?_
    · have d1 := of_decide_eq_true d1
      have d2 := of_decide_eq_true d2
      have d3 := (lt b1).1 (of_decide_eq_true d3)
      have d4 := (lt b2).1 (of_decide_eq_true d4)
      have d5 := (lt b3).1 (of_decide_eq_true d5)
      obtain ⟨e3, f3, g3⟩ := lp b1 d3
      obtain ⟨e4, f4, g4⟩ := lp b2 d4
      obtain ⟨e5, f5, g5⟩ := lp b3 d5
      rw [if_pos (show 240 ≤ b0 ∧ b0 < 248 ∧ ct b1 = true ∧ ct b2 = true ∧ ct b3 = true from ⟨d1, d2, d3, d4, d5⟩), e3, e4, e5, w (b0 - 240) (by omega) (by omega), w (262144 * (b0 - 240)) (by omega) (by omega), w (4096 * (b1 - 128)) (by omega) (by omega), w (64 * (b2 - 128)) (by omega) (by omega), w (262144 * (b0 - 240) + 4096 * (b1 - 128)) (by omega) (by omega), w (262144 * (b0 - 240) + 4096 * (b1 - 128) + 64 * (b2 - 128)) (by omega) (by omega), w (262144 * (b0 - 240) + 4096 * (b1 - 128) + 64 * (b2 - 128) + (b3 - 128)) (by omega) (by omega)]
    · exact (of_decide_eq_false d5) ((lt b3).2 g.2.2.2.2)
    · exact (of_decide_eq_false d4) ((lt b2).2 g.2.2.2.1)
    · exact (of_decide_eq_false d3) ((lt b1).2 g.2.2.1)
    · exact (of_decide_eq_false d2) g.2.1
    · exact (of_decide_eq_false d1) g.1
  have n2 : ¬ (192 ≤ b0 ∧ b0 < 224 ∧ ct b1 = true) → Br (decide (b0 ≥ (224 : Int))) (Br (decide (b0 < (240 : Int))) (Br (decide ((if ct b1 = true then b1 - 128 else -1) ≥ (0 : Int))) (Br (decide ((if ct b2 = true then b2 - 128 else -1) ≥ (0 : Int)))
    (at2T s i _ (IntKind.i64.wrap (IntKind.i64.wrap (IntKind.i64.wrap ((4096 : Int) * IntKind.i64.wrap (b0 - (224 : Int))) + IntKind.i64.wrap ((64 : Int) * (if ct b1 = true then b1 - 128 else -1))) + (if ct b2 = true then b2 - 128 else -1)))) _) _) _) _ := fun q1 => by
    refine Br.mk (fun d1 => Br.mk (fun d2 => Br.mk (fun d3 => Br.mk (fun d4 => key _ ?_) fun d4 => n3 q1 fun g => ?_) fun d3 => n3 q1 fun g => ?_) fun d2 => n3 q1 fun g => ?_) fun d1 => n3 q1 fun g => ?_
    · have d1 := of_decide_eq_true d1
      have d2 := of_decide_eq_true d2
      have d3 := (lt b1).1 (of_decide_eq_true d3)
      have d4 := (lt b2).1 (of_decide_eq_true d4)
      obtain ⟨e3, f3, g3⟩ := lp b1 d3
      obtain ⟨e4, f4, g4⟩ := lp b2 d4
      rw [if_neg q1, if_pos (show 224 ≤ b0 ∧ b0 < 240 ∧ ct b1 = true ∧ ct b2 = true from ⟨d1, d2, d3, d4⟩), e3, e4, w (b0 - 224) (by omega) (by omega), w (4096 * (b0 - 224)) (by omega) (by omega), w (64 * (b1 - 128)) (by omega) (by omega), w (4096 * (b0 - 224) + 64 * (b1 - 128)) (by omega) (by omega), w (4096 * (b0 - 224) + 64 * (b1 - 128) + (b2 - 128)) (by omega) (by omega)]
    · exact (of_decide_eq_false d4) ((lt b2).2 g.2.2.2)
    · exact (of_decide_eq_false d3) ((lt b1).2 g.2.2.1)
    · exact (of_decide_eq_false d2) g.2.1
    · exact (of_decide_eq_false d1) g.1
  refine Br.mk (fun d1 => Br.mk (fun d2 => Br.mk (fun d3 => key _ ?_) fun d3 => n2 fun g => ?_) fun d2 => n2 fun g => ?_) fun d1 => n2 fun g => ?_
  · have d1 := of_decide_eq_true d1
    have d2 := of_decide_eq_true d2
    have d3 := (lt b1).1 (of_decide_eq_true d3)
    obtain ⟨e3, f3, g3⟩ := lp b1 d3
    rw [if_pos (show 192 ≤ b0 ∧ b0 < 224 ∧ ct b1 = true from ⟨d1, d2, d3⟩), e3, w (b0 - 192) (by omega) (by omega), w (64 * (b0 - 192)) (by omega) (by omega), w (64 * (b0 - 192) + (b1 - 128)) (by omega) (by omega)]
  · exact (of_decide_eq_false d3) ((lt b1).2 g.2.2)
  · exact (of_decide_eq_false d2) g.2.1
  · exact (of_decide_eq_false d1) g.1
theorem gd6_holds : Holds 62 conGd6 := gd6_of (of_of at2_holds)
theorem wr6_holds : Holds 63 conWr6 := conP_holds fun m a => by
  rcases (show ∃ w : ByteArray, w = m from ⟨_, rfl⟩) with ⟨m, rfl⟩
  rcases (show ∃ w : List At, w = a from ⟨_, rfl⟩) with ⟨a, rfl⟩
  refine fun_meetsL (AllH.tok (.cons nm6_holds (by kernel_rfl) (.cons gd6_holds (by kernel_rfl) .nil))) [] [lsWr0, lsWr1, lsWr2] (by kernel_rfl) (by kernel_rfl) (fun i z hz => by
    match i, hz with
    | 0, hz => injection hz with hz; subst hz; exact wr0_sum
    | 1, hz => injection hz with hz; subst hz; exact wr1_sum
    | 2, hz => injection hz with hz; subst hz; exact wr2_sum) fun hpre => Eq.mpr (vcWrF m a _) ?_
  have hb : oBnd a := hpre _ rfl
  have e : ∀ b, wrongE m a = b → [AV.int .i64 b] = compsOf (.int .i64 (wrongE m a)) := fun b h => by rw [h]; rfl
  refine ⟨fun h => qfin rfl (e _ ?_) rfl rfl, fun h => ⟨fun _ => Rq.mk ⟨rfl, rfl, rfl, hb⟩ ⟨fun h1 => ⟨fun _ => Rq.mk ⟨rfl, rfl, rfl, hb⟩ ⟨fun h2 => qfin rfl (e _ ?_) rfl rfl, fun h2 => ⟨fun _ => ⟨fun h3 => qfin rfl (e _ ?_) rfl rfl, fun h3 => qfin rfl (e _ ?_) rfl rfl⟩⟩⟩⟩, fun h1 => qfin rfl (e _ ?_) rfl rfl⟩⟩⟩
  all_goals unfold wrongE; rw [wrong_all]
  · rw [if_pos (by simpa using h)]
  all_goals rw [if_neg (show ¬ nameB m = false by simpa using h)]
  · rw [h1, if_neg (by decide), if_pos h2]
  · rw [h1, if_neg (by decide), if_neg (by rw [h2]; decide), if_pos (of_decide_eq_true h3)]
  · rw [h1, if_neg (by decide), if_neg (by rw [h2]; decide), if_neg (of_decide_eq_false h3)]
  · rw [h1, if_pos (by decide)]
end Go.Proofs.YtpbpabadbipfdaaGreatDoor.AX
end
section
namespace Go.Proofs.YtpbpabadbipfdaaGreatDoor.AXP
open Go Go.Proofs.YtpbpabadbipfdaaGreatDoor.AX
mutual
/-- Each node handed on, with how deep it lies. -/
def eaNd {σ : Type} (g : Nd → Int → σ → σ) (d : Int) : Nd → σ → σ
  | ⟨k, s, m, a, t, c⟩, x => eaNds g (d + 1) c (g ⟨k, s, m, a, t, c⟩ d x)
def eaNds {σ : Type} (g : Nd → Int → σ → σ) (d : Int) : List Nd → σ → σ
  | [], x => x
  | n :: l, x => eaNds g d l (eaNd g d n x)
end
mutual
def okNd {σ : Type} (p : Nd → Int → σ → Prop) (g : Nd → Int → σ → σ) (d : Int) : Nd → σ → Prop
  | ⟨k, s, m, a, t, c⟩, x => p ⟨k, s, m, a, t, c⟩ d x ∧ okNds p g (d + 1) c (g ⟨k, s, m, a, t, c⟩ d x)
def okNds {σ : Type} (p : Nd → Int → σ → Prop) (g : Nd → Int → σ → σ) (d : Int) : List Nd → σ → Prop
  | [], _ => True
  | n :: l, x => okNd p g d n x ∧ okNds p g d l (eaNd g d n x)
end
def gC (_ : Nd) (_ x : Int) : Int := x + 1
def okC (_ : Nd) (_ x : Int) : Prop := 0 ≤ x ∧ x < maxSl
def gD (n : Nd) (d x : Int) : Int := if leafB n = true then x else if d > x then d else x
def okD (_ : Nd) (_ _ : Int) : Prop := True
def gW (n : Nd) (_ : Int) (x : ByteArray) : ByteArray := if (n.kind == 2) = true then x ++ n.text else x
def okW (n : Nd) (_ : Int) (x : ByteArray) : Prop := (n.kind == 2) = true → x.size + n.text.size ≤ maxSl
def gK (n : Nd) (_ : Int) (x : Bool) : Bool := x && rightB n && !joinB n.kids
def okK (n : Nd) (_ : Int) (_ : Bool) : Prop := oBnd n.attrs
def bigA (a : At) : Bool := decide ((a.value.size : Int) > 65536)
def ixA : Nat → List At → Int
  | _, [] => -1
  | i, a :: l => if bigA a = true then i else ixA (i + 1) l
def longN (n : Nd) : Bool := decide ((n.text.size : Int) > 65536) || n.attrs.any bigA
def gL (n : Nd) (_ : Int) (x : Bool) : Bool := x || longN n
def okL (_ : Nd) (_ : Int) (_ : Bool) : Prop := True
mutual
/-- Is there a text in these or below that is too long? -/
def lonNd : Nd → Bool
  | ⟨k, s, m, a, t, c⟩ => longN ⟨k, s, m, a, t, c⟩ || lonNds c
def lonNds : List Nd → Bool
  | [] => false
  | n :: l => lonNd n || lonNds l
end
def ndFit (m t : ByteArray) (a : List At) : Prop := m.size ≤ 5000 ∧ t.size ≤ 5000 ∧ a.length ≤ 3000 ∧ ∀ x ∈ a, x.name.size ≤ 5000 ∧ x.value.size ≤ 5000
mutual
/-- Texts within bounds, in all. -/
def bndNd : Nd → Prop
  | ⟨_, _, m, a, t, c⟩ => ndFit m t a ∧ bndNds c
def bndNds : List Nd → Prop
  | [] => True
  | n :: l => bndNd n ∧ bndNds l
end
def fineNds (l : List Nd) : Prop := cntNds l < 1000000 ∧ bndNds l
end Go.Proofs.YtpbpabadbipfdaaGreatDoor.AXP
namespace Go.Proofs.YtpbpabadbipfdaaGreatDoor.AX
open Go AXP
def conLeaf : Con := conP [.agg .node] fun (n : Nd) => { res := .bool (leafB n) }
noncomputable def cxRig : Cx := cxT (tabLook [(42, conLeaf), (56, conGoodP), (57, conOpn)])
def conRig : Con := conP [.agg .node] fun (n : Nd) => { pre := some (oBnd n.attrs), res := .bool (rightB n) }
def lsJoi : LS where
  keep := [(0, .as), (3, .as)]
  left := [(2, .as)]
  sum := fun vs bs K => match vs, bs with
    | [.row .node l, .int .i64 i], [] => Rq (i = 1) (Br (joinB l) (K .ret [.bool true] []) (K (.exit 0) [.any] []))
    | _, _ => False
def conJoi : Con := conP [.row .node] fun (l : List Nd) => { res := .bool (joinB l) }
def conBig : Con := conP [.agg .attr] fun (a : At) => { res := .bool (bigA a) }
noncomputable def cxIdx : Cx := cxT (tabLook [(40, conBig)])
def lsIdx : LS where
  keep := [(0, .as), (1, .as), (7, .as), (8, .as)]
  left := [(4, .as)]
  sum := fun vs bs K => match vs, bs with
    | [.row .attr l, .fn f [], .int .i64 m, .int .i64 i], [] => Rq (f = 40 ∧ m = l.length ∧ i = 0 ∧ l.length ≤ maxSl) (Br (l.any bigA) (K .ret [.int .i64 (ixA 0 l)] []) (K (.exit 0) [.any] []))
    | _, _ => False
def conIdx : Con := conP [.row .attr, .fn 40] fun (l : List At) _ => { res := .int .i64 (ixA 0 l) }
noncomputable def cxCF : Cx := cxT (tabLook [(58, conIdx)])
def conCF : Con := conP [.row .attr, .fn 40] fun (l : List At) _ => { res := .bool (l.any bigA) }
noncomputable def cxD1 : Cx := cxT (tabLook [(42, conLeaf)])
noncomputable def cxW1 : Cx := cxT (tabLook [(33, conWrite)])
noncomputable def cxK1 : Cx := cxT (tabLook [(37, conRig), (35, conJoi)])
noncomputable def cxL1 : Cx := cxT (tabLook [(39, conCF)])
def conC1 : Con := fun args hp => match args, hp with
  | [.agg c, .int .i64 d, .ptr 0 0], [.box [.int .i64 x]] => (toNd c).bind fun n => some { pre := some (okC n d x), res := .tup [], hp := [.box [.int .i64 (gC n d x)]] }
  | _, _ => none
noncomputable def conECLt (k : Nat) : Con := fun args hp => match args, hp with
  | [x, .int .i64 d, .fn f [.ptr 0 0]], [.box [.int .i64 s]] => match Nat.beq f 31 with
    | true => (rowOf .node x).bind fun (l : List Nd) => some { pre := some (cntNds l < k ∧ 0 ≤ d ∧ d + cntNds l ≤ maxSl ∧ okNds okC gC d l s), res := .tup [], hp := [.box [.int .i64 (eaNds gC d l s)]] }
    | false => none
  | _, _ => none
noncomputable def cxEC (k : Nat) : Cx := cxT (tabLook [(31, conC1), (30, conECLt k)])
def lsEC (k : Nat) : LS where
  keep := [(1, .as), (2, .as), (8, .as), (9, .as), (10, .as)]
  left := [(2, .as)]
  sum := fun vs bs K => match vs, bs with
    | [.int .i64 d, .fn f [.ptr 0 0], .row .node l, .int .i64 m, .int .i64 i], [.box [.int .i64 s]] => Rq (f = 31 ∧ m = l.length ∧ i = 0 ∧ cntNds l < k + 1 ∧ 0 ≤ d ∧ d + cntNds l ≤ maxSl ∧ okNds okC gC d l s) (K (.exit 0) [.fn f [.ptr 0 0]] [.box [.int .i64 (eaNds gC d l s)]])
    | _, _ => False
noncomputable def conEC : Con := fun args hp => match args, hp with
  | [x, .int .i64 d, .fn f [.ptr 0 0]], [.box [.int .i64 s]] => match Nat.beq f 31 with
    | true => (rowOf .node x).bind fun (l : List Nd) => some { pre := some (0 ≤ d ∧ d + cntNds l ≤ maxSl ∧ okNds okC gC d l s), res := .tup [], hp := [.box [.int .i64 (eaNds gC d l s)]] }
    | false => none
  | _, _ => none
def conD1 : Con := fun args hp => match args, hp with
  | [.agg c, .int .i64 d, .ptr 0 0], [.box [.int .i64 x]] => (toNd c).bind fun n => some { pre := some (okD n d x), res := .tup [], hp := [.box [.int .i64 (gD n d x)]] }
  | _, _ => none
noncomputable def conEDLt (k : Nat) : Con := fun args hp => match args, hp with
  | [x, .int .i64 d, .fn f [.ptr 0 0]], [.box [.int .i64 s]] => match Nat.beq f 55 with
    | true => (rowOf .node x).bind fun (l : List Nd) => some { pre := some (cntNds l < k ∧ 0 ≤ d ∧ d + cntNds l ≤ maxSl ∧ okNds okD gD d l s), res := .tup [], hp := [.box [.int .i64 (eaNds gD d l s)]] }
    | false => none
  | _, _ => none
noncomputable def cxED (k : Nat) : Cx := cxT (tabLook [(55, conD1), (30, conEDLt k)])
def lsED (k : Nat) : LS where
  keep := [(1, .as), (2, .as), (8, .as), (9, .as), (10, .as)]
  left := [(2, .as)]
  sum := fun vs bs K => match vs, bs with
    | [.int .i64 d, .fn f [.ptr 0 0], .row .node l, .int .i64 m, .int .i64 i], [.box [.int .i64 s]] => Rq (f = 55 ∧ m = l.length ∧ i = 0 ∧ cntNds l < k + 1 ∧ 0 ≤ d ∧ d + cntNds l ≤ maxSl ∧ okNds okD gD d l s) (K (.exit 0) [.fn f [.ptr 0 0]] [.box [.int .i64 (eaNds gD d l s)]])
    | _, _ => False
noncomputable def conED : Con := fun args hp => match args, hp with
  | [x, .int .i64 d, .fn f [.ptr 0 0]], [.box [.int .i64 s]] => match Nat.beq f 55 with
    | true => (rowOf .node x).bind fun (l : List Nd) => some { pre := some (0 ≤ d ∧ d + cntNds l ≤ maxSl ∧ okNds okD gD d l s), res := .tup [], hp := [.box [.int .i64 (eaNds gD d l s)]] }
    | false => none
  | _, _ => none
def conW1 : Con := fun args hp => match args, hp with
  | [.agg c, .int .i64 d, .ptr 0 0], [.bld x] => (toNd c).bind fun n => some { pre := some (okW n d x), res := .tup [], hp := [.bld (gW n d x)] }
  | _, _ => none
noncomputable def conEWLt (k : Nat) : Con := fun args hp => match args, hp with
  | [x, .int .i64 d, .fn f [.ptr 0 0]], [.bld s] => match Nat.beq f 32 with
    | true => (rowOf .node x).bind fun (l : List Nd) => some { pre := some (cntNds l < k ∧ 0 ≤ d ∧ d + cntNds l ≤ maxSl ∧ okNds okW gW d l s), res := .tup [], hp := [.bld (eaNds gW d l s)] }
    | false => none
  | _, _ => none
noncomputable def cxEW (k : Nat) : Cx := cxT (tabLook [(32, conW1), (30, conEWLt k)])
def lsEW (k : Nat) : LS where
  keep := [(1, .as), (2, .as), (8, .as), (9, .as), (10, .as)]
  left := [(2, .as)]
  sum := fun vs bs K => match vs, bs with
    | [.int .i64 d, .fn f [.ptr 0 0], .row .node l, .int .i64 m, .int .i64 i], [.bld s] => Rq (f = 32 ∧ m = l.length ∧ i = 0 ∧ cntNds l < k + 1 ∧ 0 ≤ d ∧ d + cntNds l ≤ maxSl ∧ okNds okW gW d l s) (K (.exit 0) [.fn f [.ptr 0 0]] [.bld (eaNds gW d l s)])
    | _, _ => False
noncomputable def conEW : Con := fun args hp => match args, hp with
  | [x, .int .i64 d, .fn f [.ptr 0 0]], [.bld s] => match Nat.beq f 32 with
    | true => (rowOf .node x).bind fun (l : List Nd) => some { pre := some (0 ≤ d ∧ d + cntNds l ≤ maxSl ∧ okNds okW gW d l s), res := .tup [], hp := [.bld (eaNds gW d l s)] }
    | false => none
  | _, _ => none
def conK1 : Con := fun args hp => match args, hp with
  | [.agg c, .int .i64 d, .ptr 0 0], [.box [.bool x]] => (toNd c).bind fun n => some { pre := some (okK n d x), res := .tup [], hp := [.box [.bool (gK n d x)]] }
  | _, _ => none
noncomputable def conEKLt (k : Nat) : Con := fun args hp => match args, hp with
  | [x, .int .i64 d, .fn f [.ptr 0 0]], [.box [.bool s]] => match Nat.beq f 36 with
    | true => (rowOf .node x).bind fun (l : List Nd) => some { pre := some (cntNds l < k ∧ 0 ≤ d ∧ d + cntNds l ≤ maxSl ∧ okNds okK gK d l s), res := .tup [], hp := [.box [.bool (eaNds gK d l s)]] }
    | false => none
  | _, _ => none
noncomputable def cxEK (k : Nat) : Cx := cxT (tabLook [(36, conK1), (30, conEKLt k)])
def lsEK (k : Nat) : LS where
  keep := [(1, .as), (2, .as), (8, .as), (9, .as), (10, .as)]
  left := [(2, .as)]
  sum := fun vs bs K => match vs, bs with
    | [.int .i64 d, .fn f [.ptr 0 0], .row .node l, .int .i64 m, .int .i64 i], [.box [.bool s]] => Rq (f = 36 ∧ m = l.length ∧ i = 0 ∧ cntNds l < k + 1 ∧ 0 ≤ d ∧ d + cntNds l ≤ maxSl ∧ okNds okK gK d l s) (K (.exit 0) [.fn f [.ptr 0 0]] [.box [.bool (eaNds gK d l s)]])
    | _, _ => False
noncomputable def conEK : Con := fun args hp => match args, hp with
  | [x, .int .i64 d, .fn f [.ptr 0 0]], [.box [.bool s]] => match Nat.beq f 36 with
    | true => (rowOf .node x).bind fun (l : List Nd) => some { pre := some (0 ≤ d ∧ d + cntNds l ≤ maxSl ∧ okNds okK gK d l s), res := .tup [], hp := [.box [.bool (eaNds gK d l s)]] }
    | false => none
  | _, _ => none
def conL1 : Con := fun args hp => match args, hp with
  | [.agg c, .int .i64 d, .ptr 0 0], [.box [.bool x]] => (toNd c).bind fun n => some { pre := some (okL n d x), res := .tup [], hp := [.box [.bool (gL n d x)]] }
  | _, _ => none
noncomputable def conELLt (k : Nat) : Con := fun args hp => match args, hp with
  | [x, .int .i64 d, .fn f [.ptr 0 0]], [.box [.bool s]] => match Nat.beq f 38 with
    | true => (rowOf .node x).bind fun (l : List Nd) => some { pre := some (cntNds l < k ∧ 0 ≤ d ∧ d + cntNds l ≤ maxSl ∧ okNds okL gL d l s), res := .tup [], hp := [.box [.bool (eaNds gL d l s)]] }
    | false => none
  | _, _ => none
noncomputable def cxEL (k : Nat) : Cx := cxT (tabLook [(38, conL1), (30, conELLt k)])
def lsEL (k : Nat) : LS where
  keep := [(1, .as), (2, .as), (8, .as), (9, .as), (10, .as)]
  left := [(2, .as)]
  sum := fun vs bs K => match vs, bs with
    | [.int .i64 d, .fn f [.ptr 0 0], .row .node l, .int .i64 m, .int .i64 i], [.box [.bool s]] => Rq (f = 38 ∧ m = l.length ∧ i = 0 ∧ cntNds l < k + 1 ∧ 0 ≤ d ∧ d + cntNds l ≤ maxSl ∧ okNds okL gL d l s) (K (.exit 0) [.fn f [.ptr 0 0]] [.box [.bool (eaNds gL d l s)]])
    | _, _ => False
noncomputable def conEL : Con := fun args hp => match args, hp with
  | [x, .int .i64 d, .fn f [.ptr 0 0]], [.box [.bool s]] => match Nat.beq f 38 with
    | true => (rowOf .node x).bind fun (l : List Nd) => some { pre := some (0 ≤ d ∧ d + cntNds l ≤ maxSl ∧ okNds okL gL d l s), res := .tup [], hp := [.box [.bool (eaNds gL d l s)]] }
    | false => none
  | _, _ => none
noncomputable def cxCou : Cx := cxT (tabLook [(30, conEC)])
def conCou : Con := conP [.row .node] fun (l : List Nd) => { pre := some (cntNds l < 1000000), res := .int .i64 (cntNds l) }
noncomputable def cxDep : Cx := cxT (tabLook [(30, conED)])
def conDep : Con := conP [.row .node] fun (l : List Nd) => { pre := some (cntNds l < 1000000), res := .int .i64 (mxNds 1 l 0) }
noncomputable def cxWor : Cx := cxT (tabLook [(30, conEW), (19, conString)])
def conWor : Con := conP [.row .node] fun (l : List Nd) => { pre := some (fineNds l), res := .str (wdNds l ⟨#[]⟩) }
noncomputable def cxChk : Cx := cxT (tabLook [(14, conCou), (34, conDep), (35, conJoi), (30, conEK)])
def conChk : Con := conP [.row .node] fun (l : List Nd) => { pre := some (fineNds l), res := .int .i64 (checkS l) }
noncomputable def cxToo : Cx := cxT (tabLook [(30, conEL)])
def conToo : Con := conP [.agg .node] fun (n : Nd) => { pre := some (cntNd n < 1000000), res := .bool (lonNd n) }
end Go.Proofs.YtpbpabadbipfdaaGreatDoor.AX
end
section
namespace Go.Proofs.YtpbpabadbipfdaaGreatDoor.AX
open Go AXP
set_option maxRecDepth 100000
theorem vcLeafF (n : Nd) (Q : List AV → List Blk → List Blk → Prop) : (funA cx0 (LL Tryz.f42 []) Tryz.f42 [.agg (nodeL n)] [] [] Q) = (
Br (n.1 == (2 : Int)) (Q [AV.bool true] [] []) (Q [AV.bool (n.1 == (3 : Int))] [] [])) := by kernel_rfl
theorem vcRigF (n : Nd) (Q : List AV → List Blk → List Blk → Prop) : (funA cxRig (LL Tryz.f37 []) Tryz.f37 [.agg (nodeL n)] [] [] Q) = (
Br (leafB (Nd.mk n.1 n.2 n.3 n.4 n.5 n.6))
  (Br (n.2 == (0 : Int))
    (Br (eqS n.3 (ByteArray.mk (Array.mk [])))
      (Br ((↑n.4.length : Int) == (0 : Int))
        (Gv (n.4.length ≤ maxSl)
          (Gv (n.6.length ≤ maxSl)
            (Br ((↑n.6.length : Int) == (0 : Int))
              (Br (goodB n.5)
                (Br (!eqS n.5 (ByteArray.mk (Array.mk []))) (Q [AV.bool true] [] [])
                  (Q [AV.bool (n.1 == (3 : Int))] [] []))
                (Q [AV.bool false] [] []))
              (Q [AV.bool false] [] []))))
        (Gv (n.4.length ≤ maxSl) (Q [AV.bool false] [] [])))
      (Q [AV.bool false] [] []))
    (Q [AV.bool false] [] []))
  (Br (n.1 != (1 : Int)) (Q [AV.bool false] [] [])
    (Br (decide (n.2 < (0 : Int))) (Q [AV.bool false] [] [])
      (Br (decide (n.2 > (2 : Int))) (Q [AV.bool false] [] [])
        (Br (!eqS n.5 (ByteArray.mk (Array.mk []))) (Q [AV.bool false] [] [])
          (Rq (oBnd n.4) (Q [AV.bool (wrongE n.3 n.4 == (0 : Int))] [] []))))))) := by kernel_rfl
theorem vcJoiB (l : List Nd) (i : Int) (K : Ex → List AV → List Blk → Prop) : (bodyA cx0 (LL Tryz.f35 [lsJoi]) Tryz.f35.ntmps (loopAt Tryz.f35 0).1 (loopAt Tryz.f35 0).2 lsJoi.keep lsJoi.left K [.row .node l, .int .i64 i] []) = (
Gv (l.length ≤ maxSl)
  (Br (decide (i < (↑l.length : Int)))
    (Rq ((0 : Int) ≤ IntKind.i64.wrap (i - (1 : Int)) ∧ IntKind.i64.wrap (i - (1 : Int)) < (↑l.length : Int))
      (Br ((rd Ty.node l (IntKind.i64.wrap (i - (1 : Int)))).1 == (2 : Int))
        (Rq ((0 : Int) ≤ i ∧ i < (↑l.length : Int))
          (Br ((rd Ty.node l i).1 == (2 : Int)) (K Ex.ret [AV.bool true] [])
            (K Ex.norm [AV.row Ty.node l, AV.int IntKind.i64 (IntKind.i64.wrap (i + (1 : Int)))] [])))
        (K Ex.norm [AV.row Ty.node l, AV.int IntKind.i64 (IntKind.i64.wrap (i + (1 : Int)))] [])))
    (K (Ex.exit (0 : Nat)) [AV.any] []))) := by kernel_rfl
theorem vcJoiF (l : List Nd) (Q : List AV → List Blk → List Blk → Prop) : (funA cx0 (LL Tryz.f35 [lsJoi]) Tryz.f35 [.row .node l] [] [] Q) = (
Rq ((1 : Int) = (1 : Int)) (Br (joinB l) (Q [AV.bool true] [] []) (Q [AV.bool false] [] []))) := by kernel_rfl
theorem vcBigF (a : At) (Q : List AV → List Blk → List Blk → Prop) : (funA cx0 (LL Tryz.f40 []) Tryz.f40 [.agg [.str a.name, .str a.value]] [] [] Q) = (
Gv (a.2.size ≤ maxSl) (Q [AV.bool (decide ((↑a.2.size : Int) > (65536 : Int)))] [] [])) := by kernel_rfl
theorem vcIdxB (l : List At) (m i : Int) (K : Ex → List AV → List Blk → Prop) : (bodyA cxIdx (LL Tryz.f58 [lsIdx]) Tryz.f58.ntmps (loopAt Tryz.f58 0).1 (loopAt Tryz.f58 0).2 lsIdx.keep lsIdx.left K [.row .attr l, .fn 40 [], .int .i64 m, .int .i64 i] []) = (
Br (decide (i < m))
  (Rq ((0 : Int) ≤ i ∧ i < (↑l.length : Int))
    (Br (bigA (At.mk (rd Ty.attr l i).1 (rd Ty.attr l i).2)) (K Ex.ret [AV.int IntKind.i64 i] [])
      (K Ex.norm
        [AV.row Ty.attr l, AV.fn 40 [], AV.int IntKind.i64 m,
          AV.int IntKind.i64 (IntKind.i64.wrap (i + (1 : Int)))]
        [])))
  (K (Ex.exit (0 : Nat)) [AV.any] [])) := by kernel_rfl
theorem vcIdxF (l : List At) (Q : List AV → List Blk → List Blk → Prop) : (funA cxIdx (LL Tryz.f58 [lsIdx]) Tryz.f58 [.row .attr l, .fn 40 []] [] [] Q) = (
Gv (l.length ≤ maxSl)
  (Rq ((40 : Nat) = (40 : Nat) ∧ (↑l.length : Int) = (↑l.length : Int) ∧ (0 : Int) = (0 : Int) ∧ l.length ≤ maxSl)
    (Br (l.any bigA) (Q [AV.int IntKind.i64 (ixA (0 : Nat) l)] [] []) (Q [AV.int IntKind.i64 (-1 : Int)] [] [])))) := by kernel_rfl
theorem vcCFF (l : List At) (Q : List AV → List Blk → List Blk → Prop) : (funA cxCF (LL Tryz.f39 []) Tryz.f39 [.row .attr l, .fn 40 []] [] [] Q) = (
Q [AV.bool (decide (ixA (0 : Nat) l ≥ (0 : Int)))] [] []) := by kernel_rfl
theorem vcC1F (n : Nd) (d x : Int) (Q : List AV → List Blk → List Blk → Prop) : (funA cx0 (LL Tryz.f31 []) Tryz.f31 [.agg (nodeL n), .int .i64 d, .ptr 0 0] [.box [.int .i64 x]] [] Q) = (
Q [] [Blk.box [AV.int IntKind.i64 (IntKind.i64.wrap (x + (1 : Int)))]] []) := by kernel_rfl
theorem vcD1F (n : Nd) (d x : Int) (Q : List AV → List Blk → List Blk → Prop) : (funA cxD1 (LL Tryz.f55 []) Tryz.f55 [.agg (nodeL n), .int .i64 d, .ptr 0 0] [.box [.int .i64 x]] [] Q) = (
Br (!leafB (Nd.mk n.1 n.2 n.3 n.4 n.5 n.6)) (Q [] [Blk.box [AV.int IntKind.i64 (if d > x then d else x)]] [])
  (Q [] [Blk.box [AV.int IntKind.i64 x]] [])) := by kernel_rfl
theorem vcW1F (n : Nd) (d : Int) (x : ByteArray) (Q : List AV → List Blk → List Blk → Prop) : (funA cxW1 (LL Tryz.f32 []) Tryz.f32 [.agg (nodeL n), .int .i64 d, .ptr 0 0] [.bld x] [] Q) = (
Br (n.1 == (2 : Int)) (Rq (x.size + n.5.size ≤ maxSl) (Q [] [Blk.bld (x ++ n.5)] [])) (Q [] [Blk.bld x] [])) := by kernel_rfl
theorem vcK1F (n : Nd) (d : Int) (x : Bool) (Q : List AV → List Blk → List Blk → Prop) : (funA cxK1 (LL Tryz.f36 []) Tryz.f36 [.agg (nodeL n), .int .i64 d, .ptr 0 0] [.box [.bool x]] [] Q) = (
Br x
  (Rq (oBnd n.4)
    (Br (rightB (Nd.mk n.1 n.2 n.3 n.4 n.5 n.6)) (Q [] [Blk.box [AV.bool !joinB n.6]] [])
      (Q [] [Blk.box [AV.bool false]] [])))
  (Q [] [Blk.box [AV.bool false]] [])) := by kernel_rfl
theorem vcL1F (n : Nd) (d : Int) (x : Bool) (Q : List AV → List Blk → List Blk → Prop) : (funA cxL1 (LL Tryz.f38 []) Tryz.f38 [.agg (nodeL n), .int .i64 d, .ptr 0 0] [.box [.bool x]] [] Q) = (
Br x (Q [] [Blk.box [AV.bool true]] [])
  (Br (decide ((↑n.5.size : Int) > (65536 : Int))) (Gv (n.5.size ≤ maxSl) (Q [] [Blk.box [AV.bool true]] []))
    (Gv (n.5.size ≤ maxSl) (Q [] [Blk.box [AV.bool (n.4.any bigA)]] [])))) := by kernel_rfl
theorem vcECB (k : Nat) (l : List Nd) (d m i : Int) (s : Int) (K : Ex → List AV → List Blk → Prop) : (bodyA (cxEC k) (LL Tryz.f30 [lsEC k]) Tryz.f30.ntmps (loopAt Tryz.f30 0).1 (loopAt Tryz.f30 0).2 (lsEC k).keep (lsEC k).left K [.int .i64 d, .fn 31 [.ptr 0 0], .row .node l, .int .i64 m, .int .i64 i] [.box [.int .i64 s]]) = (
Br (decide (i < m))
  (Rq ((0 : Int) ≤ i ∧ i < (↑l.length : Int))
    (Rq
      (okC
        (Nd.mk (rd Ty.node l i).1 (rd Ty.node l i).2 (rd Ty.node l i).3 (rd Ty.node l i).4 (rd Ty.node l i).5
          (rd Ty.node l i).6)
        d s)
      (Rq
        (cntNds (rd Ty.node l i).6 < k ∧
          (0 : Int) ≤ IntKind.i64.wrap (d + (1 : Int)) ∧
            IntKind.i64.wrap (d + (1 : Int)) + (↑(cntNds (rd Ty.node l i).6) : Int) ≤ (↑maxSl : Int) ∧
              okNds okC gC (IntKind.i64.wrap (d + (1 : Int))) (rd Ty.node l i).6
                (gC
                  (Nd.mk (rd Ty.node l i).1 (rd Ty.node l i).2 (rd Ty.node l i).3 (rd Ty.node l i).4 (rd Ty.node l i).5
                    (rd Ty.node l i).6)
                  d s))
        (K Ex.norm
          [AV.int IntKind.i64 d, AV.fn 31 [AV.ptr (0 : Nat) (0 : Nat)], AV.row Ty.node l, AV.int IntKind.i64 m,
            AV.int IntKind.i64 (IntKind.i64.wrap (i + (1 : Int)))]
          [Blk.box
              [AV.int IntKind.i64
                  (eaNds gC (IntKind.i64.wrap (d + (1 : Int))) (rd Ty.node l i).6
                    (gC
                      (Nd.mk (rd Ty.node l i).1 (rd Ty.node l i).2 (rd Ty.node l i).3 (rd Ty.node l i).4
                        (rd Ty.node l i).5 (rd Ty.node l i).6)
                      d s))]]))))
  (K (Ex.exit (0 : Nat)) [AV.fn 31 [AV.ptr (0 : Nat) (0 : Nat)]] [Blk.box [AV.int IntKind.i64 s]])) := by kernel_rfl
theorem vcECF (k : Nat) (l : List Nd) (d : Int) (s : Int) (Q : List AV → List Blk → List Blk → Prop) : (funS (cxEC k) (LL Tryz.f30 [lsEC k]) Tryz.f30 [.row .node l, .int .i64 d, .fn 31 [.ptr 0 0]] [.box [.int .i64 s]] [.cap 2 0] [] [] Q) = (
Gv (l.length ≤ maxSl)
  (Rq
    ((31 : Nat) = (31 : Nat) ∧
      (↑l.length : Int) = (↑l.length : Int) ∧
        (0 : Int) = (0 : Int) ∧
          cntNds l < k + (1 : Nat) ∧ (0 : Int) ≤ d ∧ d + (↑(cntNds l) : Int) ≤ (↑maxSl : Int) ∧ okNds okC gC d l s)
    (Q [] [Blk.box [AV.int IntKind.i64 (eaNds gC d l s)]] []))) := by kernel_rfl
theorem vcEDB (k : Nat) (l : List Nd) (d m i : Int) (s : Int) (K : Ex → List AV → List Blk → Prop) : (bodyA (cxED k) (LL Tryz.f30 [lsED k]) Tryz.f30.ntmps (loopAt Tryz.f30 0).1 (loopAt Tryz.f30 0).2 (lsED k).keep (lsED k).left K [.int .i64 d, .fn 55 [.ptr 0 0], .row .node l, .int .i64 m, .int .i64 i] [.box [.int .i64 s]]) = (
Br (decide (i < m))
  (Rq ((0 : Int) ≤ i ∧ i < (↑l.length : Int))
    (Rq
      (okD
        (Nd.mk (rd Ty.node l i).1 (rd Ty.node l i).2 (rd Ty.node l i).3 (rd Ty.node l i).4 (rd Ty.node l i).5
          (rd Ty.node l i).6)
        d s)
      (Rq
        (cntNds (rd Ty.node l i).6 < k ∧
          (0 : Int) ≤ IntKind.i64.wrap (d + (1 : Int)) ∧
            IntKind.i64.wrap (d + (1 : Int)) + (↑(cntNds (rd Ty.node l i).6) : Int) ≤ (↑maxSl : Int) ∧
              okNds okD gD (IntKind.i64.wrap (d + (1 : Int))) (rd Ty.node l i).6
                (gD
                  (Nd.mk (rd Ty.node l i).1 (rd Ty.node l i).2 (rd Ty.node l i).3 (rd Ty.node l i).4 (rd Ty.node l i).5
                    (rd Ty.node l i).6)
                  d s))
        (K Ex.norm
          [AV.int IntKind.i64 d, AV.fn 55 [AV.ptr (0 : Nat) (0 : Nat)], AV.row Ty.node l, AV.int IntKind.i64 m,
            AV.int IntKind.i64 (IntKind.i64.wrap (i + (1 : Int)))]
          [Blk.box
              [AV.int IntKind.i64
                  (eaNds gD (IntKind.i64.wrap (d + (1 : Int))) (rd Ty.node l i).6
                    (gD
                      (Nd.mk (rd Ty.node l i).1 (rd Ty.node l i).2 (rd Ty.node l i).3 (rd Ty.node l i).4
                        (rd Ty.node l i).5 (rd Ty.node l i).6)
                      d s))]]))))
  (K (Ex.exit (0 : Nat)) [AV.fn 55 [AV.ptr (0 : Nat) (0 : Nat)]] [Blk.box [AV.int IntKind.i64 s]])) := by kernel_rfl
theorem vcEDF (k : Nat) (l : List Nd) (d : Int) (s : Int) (Q : List AV → List Blk → List Blk → Prop) : (funS (cxED k) (LL Tryz.f30 [lsED k]) Tryz.f30 [.row .node l, .int .i64 d, .fn 55 [.ptr 0 0]] [.box [.int .i64 s]] [.cap 2 0] [] [] Q) = (
Gv (l.length ≤ maxSl)
  (Rq
    ((55 : Nat) = (55 : Nat) ∧
      (↑l.length : Int) = (↑l.length : Int) ∧
        (0 : Int) = (0 : Int) ∧
          cntNds l < k + (1 : Nat) ∧ (0 : Int) ≤ d ∧ d + (↑(cntNds l) : Int) ≤ (↑maxSl : Int) ∧ okNds okD gD d l s)
    (Q [] [Blk.box [AV.int IntKind.i64 (eaNds gD d l s)]] []))) := by kernel_rfl
theorem vcEWB (k : Nat) (l : List Nd) (d m i : Int) (s : ByteArray) (K : Ex → List AV → List Blk → Prop) : (bodyA (cxEW k) (LL Tryz.f30 [lsEW k]) Tryz.f30.ntmps (loopAt Tryz.f30 0).1 (loopAt Tryz.f30 0).2 (lsEW k).keep (lsEW k).left K [.int .i64 d, .fn 32 [.ptr 0 0], .row .node l, .int .i64 m, .int .i64 i] [.bld s]) = (
Br (decide (i < m))
  (Rq ((0 : Int) ≤ i ∧ i < (↑l.length : Int))
    (Rq
      (okW
        (Nd.mk (rd Ty.node l i).1 (rd Ty.node l i).2 (rd Ty.node l i).3 (rd Ty.node l i).4 (rd Ty.node l i).5
          (rd Ty.node l i).6)
        d s)
      (Rq
        (cntNds (rd Ty.node l i).6 < k ∧
          (0 : Int) ≤ IntKind.i64.wrap (d + (1 : Int)) ∧
            IntKind.i64.wrap (d + (1 : Int)) + (↑(cntNds (rd Ty.node l i).6) : Int) ≤ (↑maxSl : Int) ∧
              okNds okW gW (IntKind.i64.wrap (d + (1 : Int))) (rd Ty.node l i).6
                (gW
                  (Nd.mk (rd Ty.node l i).1 (rd Ty.node l i).2 (rd Ty.node l i).3 (rd Ty.node l i).4 (rd Ty.node l i).5
                    (rd Ty.node l i).6)
                  d s))
        (K Ex.norm
          [AV.int IntKind.i64 d, AV.fn 32 [AV.ptr (0 : Nat) (0 : Nat)], AV.row Ty.node l, AV.int IntKind.i64 m,
            AV.int IntKind.i64 (IntKind.i64.wrap (i + (1 : Int)))]
          [Blk.bld
              (eaNds gW (IntKind.i64.wrap (d + (1 : Int))) (rd Ty.node l i).6
                (gW
                  (Nd.mk (rd Ty.node l i).1 (rd Ty.node l i).2 (rd Ty.node l i).3 (rd Ty.node l i).4 (rd Ty.node l i).5
                    (rd Ty.node l i).6)
                  d s))]))))
  (K (Ex.exit (0 : Nat)) [AV.fn 32 [AV.ptr (0 : Nat) (0 : Nat)]] [Blk.bld s])) := by kernel_rfl
theorem vcEWF (k : Nat) (l : List Nd) (d : Int) (s : ByteArray) (Q : List AV → List Blk → List Blk → Prop) : (funS (cxEW k) (LL Tryz.f30 [lsEW k]) Tryz.f30 [.row .node l, .int .i64 d, .fn 32 [.ptr 0 0]] [.bld s] [.cap 2 0] [] [] Q) = (
Gv (l.length ≤ maxSl)
  (Rq
    ((32 : Nat) = (32 : Nat) ∧
      (↑l.length : Int) = (↑l.length : Int) ∧
        (0 : Int) = (0 : Int) ∧
          cntNds l < k + (1 : Nat) ∧ (0 : Int) ≤ d ∧ d + (↑(cntNds l) : Int) ≤ (↑maxSl : Int) ∧ okNds okW gW d l s)
    (Q [] [Blk.bld (eaNds gW d l s)] []))) := by kernel_rfl
theorem vcEKB (k : Nat) (l : List Nd) (d m i : Int) (s : Bool) (K : Ex → List AV → List Blk → Prop) : (bodyA (cxEK k) (LL Tryz.f30 [lsEK k]) Tryz.f30.ntmps (loopAt Tryz.f30 0).1 (loopAt Tryz.f30 0).2 (lsEK k).keep (lsEK k).left K [.int .i64 d, .fn 36 [.ptr 0 0], .row .node l, .int .i64 m, .int .i64 i] [.box [.bool s]]) = (
Br (decide (i < m))
  (Rq ((0 : Int) ≤ i ∧ i < (↑l.length : Int))
    (Rq
      (okK
        (Nd.mk (rd Ty.node l i).1 (rd Ty.node l i).2 (rd Ty.node l i).3 (rd Ty.node l i).4 (rd Ty.node l i).5
          (rd Ty.node l i).6)
        d s)
      (Rq
        (cntNds (rd Ty.node l i).6 < k ∧
          (0 : Int) ≤ IntKind.i64.wrap (d + (1 : Int)) ∧
            IntKind.i64.wrap (d + (1 : Int)) + (↑(cntNds (rd Ty.node l i).6) : Int) ≤ (↑maxSl : Int) ∧
              okNds okK gK (IntKind.i64.wrap (d + (1 : Int))) (rd Ty.node l i).6
                (gK
                  (Nd.mk (rd Ty.node l i).1 (rd Ty.node l i).2 (rd Ty.node l i).3 (rd Ty.node l i).4 (rd Ty.node l i).5
                    (rd Ty.node l i).6)
                  d s))
        (K Ex.norm
          [AV.int IntKind.i64 d, AV.fn 36 [AV.ptr (0 : Nat) (0 : Nat)], AV.row Ty.node l, AV.int IntKind.i64 m,
            AV.int IntKind.i64 (IntKind.i64.wrap (i + (1 : Int)))]
          [Blk.box
              [AV.bool
                  (eaNds gK (IntKind.i64.wrap (d + (1 : Int))) (rd Ty.node l i).6
                    (gK
                      (Nd.mk (rd Ty.node l i).1 (rd Ty.node l i).2 (rd Ty.node l i).3 (rd Ty.node l i).4
                        (rd Ty.node l i).5 (rd Ty.node l i).6)
                      d s))]]))))
  (K (Ex.exit (0 : Nat)) [AV.fn 36 [AV.ptr (0 : Nat) (0 : Nat)]] [Blk.box [AV.bool s]])) := by kernel_rfl
theorem vcEKF (k : Nat) (l : List Nd) (d : Int) (s : Bool) (Q : List AV → List Blk → List Blk → Prop) : (funS (cxEK k) (LL Tryz.f30 [lsEK k]) Tryz.f30 [.row .node l, .int .i64 d, .fn 36 [.ptr 0 0]] [.box [.bool s]] [.cap 2 0] [] [] Q) = (
Gv (l.length ≤ maxSl)
  (Rq
    ((36 : Nat) = (36 : Nat) ∧
      (↑l.length : Int) = (↑l.length : Int) ∧
        (0 : Int) = (0 : Int) ∧
          cntNds l < k + (1 : Nat) ∧ (0 : Int) ≤ d ∧ d + (↑(cntNds l) : Int) ≤ (↑maxSl : Int) ∧ okNds okK gK d l s)
    (Q [] [Blk.box [AV.bool (eaNds gK d l s)]] []))) := by kernel_rfl
theorem vcELB (k : Nat) (l : List Nd) (d m i : Int) (s : Bool) (K : Ex → List AV → List Blk → Prop) : (bodyA (cxEL k) (LL Tryz.f30 [lsEL k]) Tryz.f30.ntmps (loopAt Tryz.f30 0).1 (loopAt Tryz.f30 0).2 (lsEL k).keep (lsEL k).left K [.int .i64 d, .fn 38 [.ptr 0 0], .row .node l, .int .i64 m, .int .i64 i] [.box [.bool s]]) = (
Br (decide (i < m))
  (Rq ((0 : Int) ≤ i ∧ i < (↑l.length : Int))
    (Rq
      (okL
        (Nd.mk (rd Ty.node l i).1 (rd Ty.node l i).2 (rd Ty.node l i).3 (rd Ty.node l i).4 (rd Ty.node l i).5
          (rd Ty.node l i).6)
        d s)
      (Rq
        (cntNds (rd Ty.node l i).6 < k ∧
          (0 : Int) ≤ IntKind.i64.wrap (d + (1 : Int)) ∧
            IntKind.i64.wrap (d + (1 : Int)) + (↑(cntNds (rd Ty.node l i).6) : Int) ≤ (↑maxSl : Int) ∧
              okNds okL gL (IntKind.i64.wrap (d + (1 : Int))) (rd Ty.node l i).6
                (gL
                  (Nd.mk (rd Ty.node l i).1 (rd Ty.node l i).2 (rd Ty.node l i).3 (rd Ty.node l i).4 (rd Ty.node l i).5
                    (rd Ty.node l i).6)
                  d s))
        (K Ex.norm
          [AV.int IntKind.i64 d, AV.fn 38 [AV.ptr (0 : Nat) (0 : Nat)], AV.row Ty.node l, AV.int IntKind.i64 m,
            AV.int IntKind.i64 (IntKind.i64.wrap (i + (1 : Int)))]
          [Blk.box
              [AV.bool
                  (eaNds gL (IntKind.i64.wrap (d + (1 : Int))) (rd Ty.node l i).6
                    (gL
                      (Nd.mk (rd Ty.node l i).1 (rd Ty.node l i).2 (rd Ty.node l i).3 (rd Ty.node l i).4
                        (rd Ty.node l i).5 (rd Ty.node l i).6)
                      d s))]]))))
  (K (Ex.exit (0 : Nat)) [AV.fn 38 [AV.ptr (0 : Nat) (0 : Nat)]] [Blk.box [AV.bool s]])) := by kernel_rfl
theorem vcELF (k : Nat) (l : List Nd) (d : Int) (s : Bool) (Q : List AV → List Blk → List Blk → Prop) : (funS (cxEL k) (LL Tryz.f30 [lsEL k]) Tryz.f30 [.row .node l, .int .i64 d, .fn 38 [.ptr 0 0]] [.box [.bool s]] [.cap 2 0] [] [] Q) = (
Gv (l.length ≤ maxSl)
  (Rq
    ((38 : Nat) = (38 : Nat) ∧
      (↑l.length : Int) = (↑l.length : Int) ∧
        (0 : Int) = (0 : Int) ∧
          cntNds l < k + (1 : Nat) ∧ (0 : Int) ≤ d ∧ d + (↑(cntNds l) : Int) ≤ (↑maxSl : Int) ∧ okNds okL gL d l s)
    (Q [] [Blk.box [AV.bool (eaNds gL d l s)]] []))) := by kernel_rfl
theorem vcCouF (l : List Nd) (Q : List AV → List Blk → List Blk → Prop) : (funA cxCou (LL Tryz.f14 []) Tryz.f14 [.row .node l] [] [] Q) = (
Rq ((0 : Int) ≤ (1 : Int) ∧ (1 : Int) + (↑(cntNds l) : Int) ≤ (↑maxSl : Int) ∧ okNds okC gC (1 : Int) l (0 : Int))
  (Q [AV.int IntKind.i64 (eaNds gC (1 : Int) l (0 : Int))] [] [])) := by kernel_rfl
theorem vcDepF (l : List Nd) (Q : List AV → List Blk → List Blk → Prop) : (funA cxDep (LL Tryz.f34 []) Tryz.f34 [.row .node l] [] [] Q) = (
Rq ((0 : Int) ≤ (1 : Int) ∧ (1 : Int) + (↑(cntNds l) : Int) ≤ (↑maxSl : Int) ∧ okNds okD gD (1 : Int) l (0 : Int))
  (Q [AV.int IntKind.i64 (eaNds gD (1 : Int) l (0 : Int))] [] [])) := by kernel_rfl
theorem vcWorF (l : List Nd) (Q : List AV → List Blk → List Blk → Prop) : (funA cxWor (LL Tryz.f15 []) Tryz.f15 [.row .node l] [] [] Q) = (
Rq
  ((0 : Int) ≤ (1 : Int) ∧
    (1 : Int) + (↑(cntNds l) : Int) ≤ (↑maxSl : Int) ∧ okNds okW gW (1 : Int) l (ByteArray.mk (Array.mk [])))
  (Rq ((eaNds gW (1 : Int) l (ByteArray.mk (Array.mk []))).size ≤ maxSl)
    (Q [AV.str (eaNds gW (1 : Int) l (ByteArray.mk (Array.mk [])))] [] []))) := by kernel_rfl
theorem vcChkF (l : List Nd) (Q : List AV → List Blk → List Blk → Prop) : (funA cxChk (LL Tryz.f16 []) Tryz.f16 [.row .node l] [] [] Q) = (
Rq (cntNds l < (1000000 : Nat))
  (Br (decide ((↑(cntNds l) : Int) > (300 : Int))) (Q [AV.int IntKind.i64 (2 : Int)] [] [])
    (Rq (cntNds l < (1000000 : Nat))
      (Br (decide (mxNds (1 : Int) l (0 : Int) > (40 : Int))) (Q [AV.int IntKind.i64 (2 : Int)] [] [])
        (Rq
          ((0 : Int) ≤ (1 : Int) ∧ (1 : Int) + (↑(cntNds l) : Int) ≤ (↑maxSl : Int) ∧ okNds okK gK (1 : Int) l !joinB l)
          (Br (!eaNds gK (1 : Int) l !joinB l) (Q [AV.int IntKind.i64 (4 : Int)] [] [])
            (Q [AV.int IntKind.i64 (0 : Int)] [] []))))))) := by kernel_rfl
theorem vcTooF (n : Nd) (Q : List AV → List Blk → List Blk → Prop) : (funA cxToo (LL Tryz.f17 []) Tryz.f17 [.agg (nodeL n)] [] [] Q) = (
Rq
  ((0 : Int) ≤ (1 : Int) ∧
    (1 : Int) + (↑(cntNds [Nd.mk n.1 n.2 n.3 n.4 n.5 n.6]) : Int) ≤ (↑maxSl : Int) ∧
      okNds okL gL (1 : Int) [Nd.mk n.1 n.2 n.3 n.4 n.5 n.6] false)
  (Q [AV.bool (eaNds gL (1 : Int) [Nd.mk n.1 n.2 n.3 n.4 n.5 n.6] false)] [] [])) := by kernel_rfl
end Go.Proofs.YtpbpabadbipfdaaGreatDoor.AX
end
section
namespace Go.Proofs.YtpbpabadbipfdaaGreatDoor.AX
open Go AXP
set_option maxRecDepth 100000
theorem vcNodeF (k : Nat) (a b : Nd) (Q : List AV → List Blk → List Blk → Prop) : (funA (cxNode k) noLoop Tryz.f25 [.agg (nodeL a), .agg (nodeL b)] [] [] Q) = (
Br (a.1 == b.1)
  (Br (a.2 == b.2)
    (Br (eqS a.3 b.3)
      (Br (eqS a.5 b.5)
        (Br (eql eqAt a.4 b.4) (Rq (szNds a.6 < k) (Q [AV.bool (eql eqNd a.6 b.6)] [] [])) (Q [AV.bool false] [] []))
        (Q [AV.bool false] [] []))
      (Q [AV.bool false] [] []))
    (Q [AV.bool false] [] []))
  (Q [AV.bool false] [] [])) := by kernel_rfl
theorem vcNds (k : Nat) (a b : List Nd) (i m : Int) (K : Ex → List AV → List Blk → Prop) : (bodyA (cxNodes k) noLoop Tryz.f11.ntmps (blkOf Tryz.f11 0) (bodyOf Tryz.f11 0) keepBeg leftBeg K [.row .node a, .row .node b, .row .node a, .int .i64 m, .int .i64 i] []) = (
Br (decide (i < m))
  (Br (decide (i ≥ (↑b.length : Int)))
    (Gv (b.length ≤ maxSl) (K Ex.ret [AV.row Ty.node a, AV.row Ty.node b, AV.bool false] []))
    (Rq ((0 : Int) ≤ i ∧ i < (↑a.length : Int))
      (Rq ((0 : Int) ≤ i ∧ i < (↑b.length : Int))
        (Rq (szNds (rd Ty.node a i).6 < k)
          (Gv (b.length ≤ maxSl)
            (Br
              (!eqNd
                  (Nd.mk (rd Ty.node a i).1 (rd Ty.node a i).2 (rd Ty.node a i).3 (rd Ty.node a i).4 (rd Ty.node a i).5
                    (rd Ty.node a i).6)
                  (Nd.mk (rd Ty.node b i).1 (rd Ty.node b i).2 (rd Ty.node b i).3 (rd Ty.node b i).4 (rd Ty.node b i).5
                    (rd Ty.node b i).6))
              (K Ex.ret [AV.row Ty.node a, AV.row Ty.node b, AV.bool false] [])
              (K Ex.norm
                [AV.row Ty.node a, AV.row Ty.node b, AV.row Ty.node a, AV.int IntKind.i64 m,
                  AV.int IntKind.i64 (IntKind.i64.wrap (i + (1 : Int)))]
                [])))))))
  (K (Ex.exit (0 : Nat)) [AV.row Ty.node a, AV.row Ty.node b, AV.any] [])) := by kernel_rfl
theorem vcNdsF (k : Nat) (a b : List Nd) (Q : List AV → List Blk → List Blk → Prop) : (funA (cxNodes k) (fun _ s K => loopA Tryz.f11.ntmps keepBeg leftBeg (sumNds k) s K) Tryz.f11 [.row .node a, .row .node b] [] [] Q) = (
Gv (a.length ≤ maxSl)
  (Rq (szNds a < k + (1 : Nat))
    (Rq (a = a ∧ (↑a.length : Int) = (↑a.length : Int) ∧ (0 : Int) = (0 : Int) ∧ a.length ≤ maxSl)
      (Br (beg eqNd a b)
        (Gv (a.length ≤ maxSl) (Gv (b.length ≤ maxSl) (Q [AV.bool ((↑a.length : Int) == (↑b.length : Int))] [] [])))
        (Q [AV.bool false] [] []))))) := by kernel_rfl
end Go.Proofs.YtpbpabadbipfdaaGreatDoor.AX
end
section
namespace Go.Proofs.YtpbpabadbipfdaaGreatDoor.AX
open Go AXP
set_option maxRecDepth 100000
theorem asNodes_le {x : AV} {l : List Nd} (h : asNodes x = some l) : AVle x (.row .node l) := fun w O I v hv => by
  cases x <;> first | (cases h; done) | exact .leaf (asNodes_R (show LeafR w O I v _ from hv) h)
theorem toNd_le {x : List AV} {n : Nd} (h : toNd x = some n) : AVle (.agg x) (.agg (nodeL n)) := fun w O I v hv => by
  obtain ⟨cs, rfl, hall⟩ := hv
  exact ⟨cs, rfl, toNd_R hall h⟩
theorem nd_eta (n : Nd) : Nd.mk n.1 n.2 n.3 n.4 n.5 n.6 = n := by cases n; rfl
theorem eqNd_eq (a b : Nd) : eqNd a b = (a.1 == b.1 && a.2 == b.2 && eqS a.3 b.3 && eqS a.5 b.5 && eql eqAt a.4 b.4 && eqNds a.6 b.6) := by cases a; cases b; rw [eqNd]
theorem node_of {k : Nat} (h : Holds 11 (conNodesLt k)) : Holds 25 (conNode k) := by
  have tok : TOK (cxNode k) := tab_ok (fun p hp => by
    cases hp with
    | head => exact h
    | tail _ hp => cases hp with
      | head => exact ats_holds
      | tail _ hp => cases hp) (fun p hp => by
    cases hp with
    | head => exact enter_of (by kernel_rfl)
    | tail _ hp => cases hp with
      | head => exact enter_of (by kernel_rfl)
      | tail _ hp => cases hp)
  intro args hp ans hc
  unfold conNode at hc
  split at hc
  · rename_i x y
    simp only [Option.bind_eq_some_iff] at hc
    obtain ⟨a, hx, b, hy, hc⟩ := hc
    injection hc with hc
    subst hc
    refine Meets.weaken (.cons (toNd_le hx) (.cons (toNd_le hy) .nil)) ?_
    refine meets_any (T := fun _ _ _ => none) (show Meets (cxNode k) _ _ _ _ from ?_)
    refine fun_meets (fn := Tryz.f25) (c := Tryz.f25.body.getD .skip) (ws := []) (L := noLoop) (cxOK _) tok (by kernel_rfl) (by kernel_rfl) (fun p hp => ?_) (by kernel_rfl) (by kernel_rfl) fun hpre => ?_
    · have : (loopsOf 0 (Tryz.f25.body.getD .skip)).length = 0 := by kernel_rfl
      rw [List.eq_nil_of_length_eq_zero this] at hp; cases hp
    · have e := eqNd_eq a b
      rw [eqNds_eql] at e
      refine Eq.mpr (vcNodeF k a b _) ⟨fun h1 => ⟨fun h2 => ⟨fun h3 => ⟨fun h4 => ⟨fun h5 => ⟨hpre _ rfl, ⟨fun _ h => (nomatch h), ?_, rfl, rfl⟩⟩, fun h5 => ⟨fun _ h => (nomatch h), ?_, rfl, rfl⟩⟩, fun h4 => ⟨fun _ h => (nomatch h), ?_, rfl, rfl⟩⟩, fun h3 => ⟨fun _ h => (nomatch h), ?_, rfl, rfl⟩⟩, fun h2 => ⟨fun _ h => (nomatch h), ?_, rfl, rfl⟩⟩, fun h1 => ⟨fun _ h => (nomatch h), ?_, rfl, rfl⟩⟩ <;>
      · show [AV.bool _] = [AV.bool _]
        rw [e]
        simp only [*, Bool.true_and, Bool.false_and, Bool.and_false]
  · cases hc
theorem nodes_step {k : Nat} (h : Holds 25 (conNode k)) : Holds 11 (conNodesLt (k + 1)) := by
  have tok : TOK (cxNodes k) := tab_ok (fun p hp => by
    cases hp with
    | head => exact h
    | tail _ hp => cases hp) (fun p hp => by
    cases hp with
    | head => exact enter_of (by kernel_rfl)
    | tail _ hp => cases hp)
  intro args hp ans hc
  unfold conNodesLt at hc
  split at hc
  · rename_i x y
    simp only [Option.bind_eq_some_iff] at hc
    obtain ⟨a, hx, b, hy, hc⟩ := hc
    injection hc with hc
    subst hc
    refine Meets.weaken (.cons (asNodes_le hx) (.cons (asNodes_le hy) .nil)) ?_
    refine beg_fun tok (t := .node) (g := eqNd) (sum := sumNds k) (f := 11) (fn := Tryz.f11) (by kernel_rfl) (by kernel_rfl) (by kernel_rfl) (by kernel_rfl) (by kernel_rfl) (by kernel_rfl) (by kernel_rfl) (by kernel_rfl) (ok := fun a => szNds a < k + 1) (fun a b hs i K h => ?_) (fun vs bs K hs => ?_) a b _ (fun hpre Q h => ?_)
    · refine Eq.mpr (vcNds k a b i a.length K) ⟨fun h1 => ⟨fun h2 => (h.yes h1).yes h2, fun h2 => ?_⟩, h.no⟩
      obtain ⟨i1, i2, i3⟩ := (h.yes h1).no h2
      refine ⟨i1, i2, ?_, ?_⟩
      · have hlt : i < a.length := by have := i1.2; omega
        have ra : rd .node a (i : Int) = a[i] := by rw [rd_eq (by simpa using hlt)]; simp
        rw [ra]
        exact Nat.lt_of_lt_of_le (szNds_kids hlt) (Nat.le_of_lt_succ hs)
      · rw [nd_eta (rd .node a (i : Int)), nd_eta (rd .node b (i : Int))]; exact i3
    · unfold sumNds at hs
      split at hs
      · exact ⟨_, _, _, _, _, hs.it, rfl, rfl, hs.on⟩
      · exact hs.elim
    · refine Eq.mpr (vcNdsF k a b Q) ⟨fun h1 => ⟨hpre _ rfl, h.on h1⟩⟩
  · cases hc
theorem nodes_lt : ∀ k, Holds 11 (conNodesLt k)
  | 0 => by
    intro args hp ans hc
    unfold conNodesLt at hc
    split at hc
    · simp only [Option.bind_eq_some_iff] at hc
      obtain ⟨a, hx, b, hy, hc⟩ := hc
      injection hc with hc
      subst hc
      intro F I w vals _ _ hpre
      exact absurd (hpre _ rfl) (Nat.not_lt_zero _)
    · cases hc
  | k + 1 => nodes_step (node_of (nodes_lt k))
/-- The contract without a bound. -/
theorem Meets.nopre {cx : Cx} {f : Nat} {args : List AV} {hp : List Blk} {ans : Ans} (h : Meets cx f args hp ans) (hp' : ∀ p, ans.pre = some p → p) : Meets cx f args hp { ans with pre := none } :=
  fun F I w vals hH hv _ => h F I w vals hH hv hp'
def conNodes : Con := fun args hp => match args, hp with
  | [x, y], [] => (asNodes x).bind fun a => (asNodes y).bind fun b => some { res := .bool (eql eqNd a b) }
  | _, _ => none
theorem nodes_holds : Holds 11 conNodes := by
  intro args hp ans hc
  unfold conNodes at hc
  split at hc
  · rename_i x y
    simp only [Option.bind_eq_some_iff] at hc
    obtain ⟨a, hx, b, hy, hc⟩ := hc
    injection hc with hc
    subst hc
    refine Meets.nopre (ans := { pre := some (szNds a < szNds a + 1), res := .bool (eql eqNd a b) }) (nodes_lt (szNds a + 1) [x, y] [] { pre := some (szNds a < szNds a + 1), res := .bool (eql eqNd a b) } ?_) (fun p hp => ?_)
    · simp only [conNodesLt, hx, hy, Option.bind_some]
    · injection hp with hp; subst hp; exact Nat.lt_succ_self _
  · cases hc
def conNode' : Con := fun args hp => match args, hp with
  | [.agg x, .agg y], [] => (toNd x).bind fun a => (toNd y).bind fun b => some { res := .bool (eqNd a b) }
  | _, _ => none
theorem node_holds : Holds 25 conNode' := by
  intro args hp ans hc
  unfold conNode' at hc
  split at hc
  · rename_i x y
    simp only [Option.bind_eq_some_iff] at hc
    obtain ⟨a, hx, b, hy, hc⟩ := hc
    injection hc with hc
    subst hc
    refine Meets.nopre (ans := { pre := some (szNds a.kids < szNds a.kids + 1), res := .bool (eqNd a b) }) (node_of (nodes_lt (szNds a.kids + 1)) [.agg x, .agg y] [] { pre := some (szNds a.kids < szNds a.kids + 1), res := .bool (eqNd a b) } ?_) (fun p hp => ?_)
    · simp only [conNode, hx, hy, Option.bind_some]
    · injection hp with hp; subst hp; exact Nat.lt_succ_self _
  · cases hc
end Go.Proofs.YtpbpabadbipfdaaGreatDoor.AX
end
section
namespace Go.Proofs.YtpbpabadbipfdaaGreatDoor.AX
open Go AXP
set_option maxRecDepth 100000
end Go.Proofs.YtpbpabadbipfdaaGreatDoor.AX
end
section
namespace Go.Proofs.YtpbpabadbipfdaaGreatDoor.AX
open Go AXP
set_option maxRecDepth 100000
def cloneAns (t : Ty) (by_ : Nat) (l : List (den t)) : Ans := { pre := some (l.length * by_ ≤ maxSl), res := .own 0 0, extra := [.rowb 0 t l] }
theorem clone_meets {f : FuncId} {fn : Func} {t : Ty} {by_ : Nat} (hf : Tryz.prog.funcs[f]? = some fn) (hb : fn.body = some (fn.body.getD .skip)) (h0 : (loopsOf 0 (fn.body.getD .skip)).length = 0) (hcl : clearC [] (fn.body.getD .skip) = true)
    (hsz : fn.results.size = 1) (hnt : Nat.ble 1 fn.ntmps = true)
    (hC : ∀ a l Q, funA cx0 noLoop fn [.row t (a :: l)] [] [] Q = Rq ((0 + (a :: l).length) * by_ ≤ maxSl) (Q [.own 0 0] [] [.rowb 0 t (a :: l)]))
    (hN : ∀ Q, funA cx0 noLoop fn [.nil] [] [.own t] Q = Q [.own 0 0] [] [.rowb 0 t []])
    (hZ : ∀ Q, funA cx0 noLoop fn [.zrow] [] [] Q = Rq ((0 + 0) * by_ ≤ maxSl) (Q [.own 0 0] [] [.rowb 0 t []]))
    (l : List (den t)) : Meets cx0 f [.row t l] [] (cloneAns t by_ l) := by
  have lo : LoopsOK cx0 [] noLoop 0 (fn.body.getD .skip) := fun p hp => by rw [List.eq_nil_of_length_eq_zero h0] at hp; cases hp
  have form : ∀ x : AV, ∀ l, formB fn [x] [] (cloneAns t by_ l) = true := fun x l => by
    simp only [formB, formS, noSame, sameB, ptrsB, kindsB, cloneAns, isTup, hsz, List.length_cons, List.length_nil, Bool.true_and, Bool.and_true]; exact hnt
  cases l with
  | cons a l =>
    refine fun_meets (cx := cx0) (ws := []) (L := noLoop) cx0OK tok0 hf hb lo hcl (form _ _) fun hpre => ?_
    exact Eq.mpr (hC a l _) ⟨by rw [Nat.zero_add]; exact hpre _ rfl, fun _ h => (nomatch h), rfl, rfl, rfl⟩
  | nil =>
    refine Meets.row0 (args0 := []) (args1 := []) ?_ ?_
    · refine fun_meets (cx := cx0) (ws := [.own t]) (L := noLoop) cx0OK tok0 hf hb lo hcl (form _ _) fun hpre => ?_
      exact Eq.mpr (hN _) ⟨fun _ h => (nomatch h), rfl, rfl, rfl⟩
    · refine fun_meets (cx := cx0) (ws := []) (L := noLoop) cx0OK tok0 hf hb lo hcl (form _ _) fun hpre => ?_
      exact Eq.mpr (hZ _) ⟨by unfold maxSl; omega, fun _ h => (nomatch h), rfl, rfl, rfl⟩
def conCloneAts : Con := fun args hp => match args, hp with
  | [x], [] => (asAttrs x).bind fun a => some (cloneAns .attr 32 a)
  | _, _ => none
def conCloneNds : Con := fun args hp => match args, hp with
  | [x], [] => (asNodes x).bind fun a => some (cloneAns .node 96 a)
  | _, _ => none
def conCloneIts : Con := fun args hp => match args, hp with
  | [x], [] => (asInts x).bind fun a => some (cloneAns .int 8 a)
  | _, _ => none
end Go.Proofs.YtpbpabadbipfdaaGreatDoor.AX
end
section
namespace Go.Proofs.YtpbpabadbipfdaaGreatDoor.AXP
open Go Go.Proofs.YtpbpabadbipfdaaGreatDoor.AX
mutual
/-- Are lists small enough to be copied? -/
def fitNd : Nd → Prop
  | ⟨_, _, _, a, _, c⟩ => a.length * 32 ≤ maxSl ∧ fitNds c
def fitNds : List Nd → Prop
  | [] => True
  | x :: l => (x :: l).length * 96 ≤ maxSl ∧ fitNd x ∧ fitNds l
end
end Go.Proofs.YtpbpabadbipfdaaGreatDoor.AXP
namespace Go.Proofs.YtpbpabadbipfdaaGreatDoor.AX
open Go AXP
noncomputable def conCopyLt (k : Nat) : Con := fun args hp => match args, hp with
  | [x], [] => (asNodes x).bind fun a => some { pre := some (szNds a < k ∧ fitNds a), res := .own 0 0, extra := [.rowb 0 .node a] }
  | _, _ => none
def keepCopy : List (Tmp × Want) := [(3, .own .node), (8, .as), (9, .as)]
def leftCopy : List (Tmp × Want) := [(3, .own .node)]
noncomputable def sumCopy (k : Nat) (vs : List AV) (bs : List Blk) (K : Ex → List AV → List Blk → Prop) : Prop :=
  match vs, bs with
  | [.own 0 0, .int .i64 m, .int .i64 i], [.rowb 0 .node a] => Rq (m = a.length ∧ i = 0 ∧ a.length ≤ maxSl ∧ szNds a < k + 1 ∧ fitNds a) (K (.exit 0) [.own 0 0] [.rowb 0 .node a])
  | _, _ => False
end Go.Proofs.YtpbpabadbipfdaaGreatDoor.AX
end
section
namespace Go.Proofs.YtpbpabadbipfdaaGreatDoor.AX
open Go AXP
set_option maxRecDepth 100000
end Go.Proofs.YtpbpabadbipfdaaGreatDoor.AX
end
section
namespace Go.Proofs.YtpbpabadbipfdaaGreatDoor.AX
open Go AXP
set_option maxRecDepth 100000
theorem fit_len {a : List Nd} (h : fitNds a) : a.length * 96 ≤ maxSl := by
  cases a with
  | nil => simp
  | cons x l => rw [fitNds] at h; exact h.1
theorem fit_at : ∀ {a : List Nd} {i : Nat} (hi : i < a.length), fitNds a → fitNd a[i]
  | x :: l, 0, _, h => by rw [fitNds] at h; exact h.2.1
  | x :: l, i + 1, hi, h => by rw [fitNds] at h; exact fit_at (a := l) (by simpa using hi) h.2.2
theorem fit_eq (n : Nd) : fitNd n ↔ n.4.length * 32 ≤ maxSl ∧ fitNds n.6 := by cases n; rw [fitNd]
def conCopy : Con := fun args hp => match args, hp with
  | [x], [] => (asNodes x).bind fun a => some { pre := some (fitNds a), res := .own 0 0, extra := [.rowb 0 .node a] }
  | _, _ => none
end Go.Proofs.YtpbpabadbipfdaaGreatDoor.AX
end
section
namespace Go.Proofs.YtpbpabadbipfdaaGreatDoor.AXP
open Go Go.Proofs.YtpbpabadbipfdaaGreatDoor.AX
theorem eaNd_eq {σ : Type} (g : Nd → Int → σ → σ) (d : Int) (n : Nd) (x : σ) : eaNd g d n x = eaNds g (d + 1) n.kids (g n d x) := by cases n; rw [eaNd]
theorem okNd_eq {σ : Type} (p : Nd → Int → σ → Prop) (g : Nd → Int → σ → σ) (d : Int) (n : Nd) (x : σ) : okNd p g d n x = (p n d x ∧ okNds p g (d + 1) n.kids (g n d x)) := by cases n; rw [okNd]
mutual
theorem eaC : ∀ (n : Nd) (d x : Int), eaNd gC d n x = x + cntNd n
  | ⟨k, s, m, a, t, c⟩, d, x => by rw [eaNd, eaCs c, cntNd]; unfold gC; omega
theorem eaCs : ∀ (l : List Nd) (d x : Int), eaNds gC d l x = x + cntNds l
  | [], d, x => by rw [eaNds, cntNds]; omega
  | n :: l, d, x => by rw [eaNds, eaC n, eaCs l, cntNds]; omega
end
mutual
theorem okC_of : ∀ (n : Nd) (d x : Int), 0 ≤ x → x + cntNd n ≤ maxSl → okNd okC gC d n x
  | ⟨k, s, m, a, t, c⟩, d, x, h0, h => by
    rw [cntNd] at h
    rw [okNd]
    refine ⟨⟨h0, by omega⟩, okCs_of c _ _ ?_ ?_⟩ <;> unfold gC <;> omega
theorem okCs_of : ∀ (l : List Nd) (d x : Int), 0 ≤ x → x + cntNds l ≤ maxSl → okNds okC gC d l x
  | [], d, x, _, _ => by rw [okNds]; trivial
  | n :: l, d, x, h0, h => by
    rw [cntNds] at h
    rw [okNds]
    exact ⟨okC_of n _ _ h0 (by omega), okCs_of l _ _ (by rw [eaC]; omega) (by rw [eaC]; omega)⟩
end
mutual
theorem eaD : ∀ (n : Nd) (d x : Int), eaNd gD d n x = mxNd d n x
  | ⟨k, s, m, a, t, c⟩, d, x => by rw [eaNd, eaDs c, mxNd]; rfl
theorem eaDs : ∀ (l : List Nd) (d x : Int), eaNds gD d l x = mxNds d l x
  | [], d, x => by rw [eaNds, mxNds]
  | n :: l, d, x => by rw [eaNds, eaD n, eaDs l, mxNds]
end
mutual
theorem okD_of : ∀ (n : Nd) (d x : Int), okNd okD gD d n x
  | ⟨k, s, m, a, t, c⟩, d, x => by rw [okNd]; exact ⟨trivial, okDs_of c _ _⟩
theorem okDs_of : ∀ (l : List Nd) (d x : Int), okNds okD gD d l x
  | [], d, x => by rw [okNds]; trivial
  | n :: l, d, x => by rw [okNds]; exact ⟨okD_of n _ _, okDs_of l _ _⟩
end
mutual
theorem eaW : ∀ (n : Nd) (d : Int) (x : ByteArray), eaNd gW d n x = wdNd n x
  | ⟨k, s, m, a, t, c⟩, d, x => by rw [eaNd, eaWs c, wdNd]; rfl
theorem eaWs : ∀ (l : List Nd) (d : Int) (x : ByteArray), eaNds gW d l x = wdNds l x
  | [], d, x => by rw [eaNds, wdNds]
  | n :: l, d, x => by rw [eaNds, eaW n, eaWs l, wdNds]
end
mutual
theorem wd_mono : ∀ (n : Nd) (x : ByteArray), x.size ≤ (wdNd n x).size
  | ⟨k, s, m, a, t, c⟩, x => by
    rw [wdNd]
    refine Nat.le_trans ?_ (wds_mono c _)
    split
    · rw [ByteArray.size_append]; omega
    · exact Nat.le_refl _
theorem wds_mono : ∀ (l : List Nd) (x : ByteArray), x.size ≤ (wdNds l x).size
  | [], x => by rw [wdNds]; exact Nat.le_refl _
  | n :: l, x => by rw [wdNds]; exact Nat.le_trans (wd_mono n x) (wds_mono l _)
end
mutual
theorem wd_le : ∀ (n : Nd) (x : ByteArray), bndNd n → (wdNd n x).size ≤ x.size + cntNd n * 5000
  | ⟨k, s, m, a, t, c⟩, x, h => by
    rw [bndNd] at h
    rw [wdNd, cntNd]
    refine Nat.le_trans (wds_le c _ h.2) ?_
    have := h.1.2.1
    split
    · rw [ByteArray.size_append]; omega
    · omega
theorem wds_le : ∀ (l : List Nd) (x : ByteArray), bndNds l → (wdNds l x).size ≤ x.size + cntNds l * 5000
  | [], x, _ => by rw [wdNds]; omega
  | n :: l, x, h => by
    rw [bndNds] at h
    rw [wdNds, cntNds]
    have h1 := wd_le n x h.1
    have h2 := wds_le l (wdNd n x) h.2
    omega
end
mutual
theorem okW_of : ∀ (n : Nd) (d : Int) (x : ByteArray), (wdNd n x).size ≤ maxSl → okNd okW gW d n x
  | ⟨k, s, m, a, t, c⟩, d, x, h => by
    rw [wdNd] at h
    rw [okNd]
    refine ⟨fun hk => ?_, okWs_of c _ _ h⟩
    have hk : (k == 2) = true := hk
    rw [if_pos hk] at h
    have := Nat.le_trans (wds_mono c _) h
    rw [ByteArray.size_append] at this
    exact this
theorem okWs_of : ∀ (l : List Nd) (d : Int) (x : ByteArray), (wdNds l x).size ≤ maxSl → okNds okW gW d l x
  | [], d, x, _ => by rw [okNds]; trivial
  | n :: l, d, x, h => by
    rw [wdNds] at h
    rw [okNds, eaW]
    exact ⟨okW_of n _ _ (Nat.le_trans (wds_mono l _) h), okWs_of l _ _ h⟩
end
mutual
theorem eaK : ∀ (n : Nd) (d : Int) (x : Bool), eaNd gK d n x = (x && allB n)
  | ⟨k, s, m, a, t, c⟩, d, x => by rw [eaNd, eaKs c, allB]; unfold gK; simp only [Bool.and_assoc]
theorem eaKs : ∀ (l : List Nd) (d : Int) (x : Bool), eaNds gK d l x = (x && allBs l)
  | [], d, x => by rw [eaNds, allBs, Bool.and_true]
  | n :: l, d, x => by rw [eaNds, eaK n, eaKs l, allBs, Bool.and_assoc]
end
mutual
theorem okK_of : ∀ (n : Nd) (d : Int) (x : Bool), bndNd n → okNd okK gK d n x
  | ⟨k, s, m, a, t, c⟩, d, x, h => by rw [bndNd] at h; rw [okNd]; exact ⟨⟨Nat.le_trans h.1.2.2.1 (by decide), fun x hx => Nat.le_trans (h.1.2.2.2 x hx).2 (by decide)⟩, okKs_of c _ _ h.2⟩
theorem okKs_of : ∀ (l : List Nd) (d : Int) (x : Bool), bndNds l → okNds okK gK d l x
  | [], d, x, _ => by rw [okNds]; trivial
  | n :: l, d, x, h => by rw [bndNds] at h; rw [okNds]; exact ⟨okK_of n _ _ h.1, okKs_of l _ _ h.2⟩
end
mutual
theorem eaL : ∀ (n : Nd) (d : Int) (x : Bool), eaNd gL d n x = (x || lonNd n)
  | ⟨k, s, m, a, t, c⟩, d, x => by rw [eaNd, eaLs c, lonNd]; unfold gL; rw [Bool.or_assoc]
theorem eaLs : ∀ (l : List Nd) (d : Int) (x : Bool), eaNds gL d l x = (x || lonNds l)
  | [], d, x => by rw [eaNds, lonNds, Bool.or_false]
  | n :: l, d, x => by rw [eaNds, eaL n, eaLs l, lonNds, Bool.or_assoc]
end
mutual
theorem okL_of : ∀ (n : Nd) (d : Int) (x : Bool), okNd okL gL d n x
  | ⟨k, s, m, a, t, c⟩, d, x => by rw [okNd]; exact ⟨trivial, okLs_of c _ _⟩
theorem okLs_of : ∀ (l : List Nd) (d : Int) (x : Bool), okNds okL gL d l x
  | [], d, x => by rw [okNds]; trivial
  | n :: l, d, x => by rw [okNds]; exact ⟨okL_of n _ _, okLs_of l _ _⟩
end
theorem ix_neg : ∀ (l : List At) (i : Nat), l.any bigA = false → ixA i l = -1
  | [], _, _ => rfl
  | a :: l, i, h => by
    rw [List.any_cons, Bool.or_eq_false_iff] at h
    rw [ixA, if_neg (by rw [h.1]; decide), ix_neg l _ h.2]
theorem ix_pos : ∀ (l : List At) (i : Nat), l.any bigA = true → 0 ≤ ixA i l
  | [], _, h => by cases h
  | a :: l, i, h => by
    rw [ixA]
    split
    · omega
    · rename_i ha
      rw [List.any_cons, Bool.or_eq_true] at h
      exact ix_pos l _ (h.resolve_left ha)
theorem joinB_drop {l : List Nd} {i : Nat} (h : i + 1 < l.length) : joinB (l.drop i) = ((l[i].kind == 2 && l[i + 1].kind == 2) || joinB (l.drop (i + 1))) := by
  rw [List.drop_eq_getElem_cons (show i < l.length by omega), List.drop_eq_getElem_cons h, joinB]
end Go.Proofs.YtpbpabadbipfdaaGreatDoor.AXP
namespace Go.Proofs.YtpbpabadbipfdaaGreatDoor.AX
open Go AXP
set_option maxRecDepth 100000
theorem leaf_holds : Holds 42 conLeaf := conP_holds fun n => by
  refine fun_meets0 tok0 [] (by kernel_rfl) (by kernel_rfl) fun _ => Eq.mpr (vcLeafF n _) ?_
  have e : ∀ b, leafB n = b → [AV.bool b] = compsOf (.bool (leafB n)) := fun b h => by rw [h]; rfl
  refine ⟨fun h => qfin rfl (e _ ?_) rfl rfl, fun h => qfin rfl (e _ ?_) rfl rfl⟩
  · show (n.1 == 2 || n.1 == 3) = true
    rw [h]; rfl
  · show (n.1 == 2 || n.1 == 3) = (n.1 == 3)
    rw [h]; rfl
theorem rig_holds : Holds 37 conRig := conP_holds fun n => by
  rcases (show ∃ w : Nd, w = n from ⟨_, rfl⟩) with ⟨n, rfl⟩
  refine fun_meets0 (AllH.tok (.cons leaf_holds (by kernel_rfl) (.cons goodP_holds (by kernel_rfl) (.cons opn_holds (by kernel_rfl) .nil)))) [] (by kernel_rfl) (by kernel_rfl) fun hpre => Eq.mpr (vcRigF n _) ?_
  have hb : oBnd n.4 := hpre _ rfl
  simp only [nd_eta]
  have e : ∀ b, rightB n = b → [AV.bool b] = compsOf (.bool (rightB n)) := fun b h => by rw [h]; rfl
  have hn : rightB n = if leafB n = true then n.2 == 0 && eqS n.3 ⟨#[]⟩ && n.4.length == 0 && n.6.length == 0 && goodB n.5 && (!eqS n.5 ⟨#[]⟩ || n.1 == 3) else n.1 == 1 && decide (0 ≤ n.2) && decide (n.2 ≤ 2) && eqS n.5 ⟨#[]⟩ && wrongE n.3 n.4 == 0 := rfl
  have hL : ∀ {α : Type} (l : List α) (b : Bool), ((l.length : Int) == 0) = b → (l.length == 0) = b := fun l b h => by
    rw [← h, Bool.eq_iff_iff, beq_iff_eq, beq_iff_eq]; omega
  refine ⟨fun h => ?_, fun h => ?_⟩
  · rw [if_pos h] at hn
    refine ⟨fun h1 => ⟨fun h2 => ⟨fun h3 => ⟨fun _ => ⟨fun _ => ⟨fun h4 => ⟨fun h5 => ⟨fun h6 => qfin rfl (e _ ?_) rfl rfl, fun h6 => qfin rfl (e _ ?_) rfl rfl⟩, fun h5 => qfin rfl (e _ ?_) rfl rfl⟩, fun h4 => qfin rfl (e _ ?_) rfl rfl⟩⟩⟩, fun h3 => ⟨fun _ => qfin rfl (e _ ?_) rfl rfl⟩⟩, fun h2 => qfin rfl (e _ ?_) rfl rfl⟩, fun h1 => qfin rfl (e _ ?_) rfl rfl⟩
    · rw [hn, h1, h2, hL _ _ h3, hL _ _ h4, h5, h6]; rfl
    · rw [hn, h1, h2, hL _ _ h3, hL _ _ h4, h5, h6]; rfl
    · rw [hn, h1, h2, hL _ _ h3, hL _ _ h4, h5]; rfl
    · rw [hn, h1, h2, hL _ _ h3, hL _ _ h4]; rfl
    · rw [hn, h1, h2, hL _ _ h3]; rfl
    · rw [hn, h1, h2]; rfl
    · rw [hn, h1]; rfl
  · rw [if_neg (by rw [h]; decide)] at hn
    refine ⟨fun h1 => qfin rfl (e _ ?_) rfl rfl, fun h1 => ⟨fun h2 => qfin rfl (e _ ?_) rfl rfl, fun h2 => ⟨fun h3 => qfin rfl (e _ ?_) rfl rfl, fun h3 => ⟨fun h4 => qfin rfl (e _ ?_) rfl rfl, fun h4 => Rq.mk hb (qfin rfl (e _ ?_) rfl rfl)⟩⟩⟩⟩
    · have h1 : (n.1 == 1) = false := by simpa using h1
      rw [hn, h1]; rfl
    · have h2 : decide (0 ≤ n.2) = false := decide_eq_false (by have := of_decide_eq_true h2; omega)
      rw [hn, h2, Bool.and_false]; rfl
    · have h3 : decide (n.2 ≤ 2) = false := decide_eq_false (by have := of_decide_eq_true h3; omega)
      rw [hn, h3, Bool.and_false]; rfl
    · have h4 : eqS n.5 ⟨#[]⟩ = false := by simpa using h4
      rw [hn, h4, Bool.and_false]; rfl
    · have h1 : (n.1 == 1) = true := by simpa using h1
      have h2 : decide (0 ≤ n.2) = true := decide_eq_true (by have := of_decide_eq_false h2; omega)
      have h3 : decide (n.2 ≤ 2) = true := decide_eq_true (by have := of_decide_eq_false h3; omega)
      have h4 : eqS n.5 ⟨#[]⟩ = true := by simpa using h4
      rw [hn, h1, h2, h3, h4]; rfl
theorem joi_sum : SumOK cx0 (LL Tryz.f35 [lsJoi]) Tryz.f35.ntmps (loopAt Tryz.f35 0).1 (loopAt Tryz.f35 0).2 lsJoi := by
  intro vs bs K hs
  unfold lsJoi at hs
  simp only at hs
  split at hs
  case h_2 => exact hs.elim
  rename_i l i
  rcases (show ∃ w : List Nd, w = l from ⟨_, rfl⟩) with ⟨l, rfl⟩
  obtain ⟨rfl, h⟩ := hs
  refine sum_rec (σ := Nat) (fun i => [.row .node l, .int .i64 ((i + 1 : Nat) : Int)]) (fun _ => []) (fun i => (i = 0 ∨ i + 1 ≤ l.length) ∧ joinB (l.drop i) = joinB l) (fun i => l.length - i) ?_ 0 ⟨.inl rfl, rfl⟩
  rintro i ⟨hi, he⟩ R hR
  refine Eq.mpr (vcJoiB l _ _) ⟨fun hm => ⟨fun h1 => ?_, fun h1 => ?_⟩⟩
  · have hlt : i + 1 < l.length := by have := of_decide_eq_true h1; omega
    have ew : IntKind.i64.wrap (((i + 1 : Nat) : Int) - 1) = (i : Int) := by unfold maxSl at hm; rw [wrap_id'] <;> omega
    have e := joinB_drop hlt
    rw [he] at e
    rw [ew, rd_nd (show i < l.length by omega), rd_nd hlt, wrap_succ hlt hm]
    have go : joinB (l.drop (i + 1)) = joinB l → R [.row .node l, .int .i64 ((i + 1 + 1 : Nat) : Int)] [] := fun q => hR (i + 1) ⟨.inr (by omega), q⟩ (by omega)
    refine Rq.mk ⟨by omega, by omega⟩ ⟨fun h2 => Rq.mk ⟨by omega, by omega⟩ ⟨fun h3 => h.yes ?_, fun h3 => go ?_⟩, fun h2 => go ?_⟩
    · have h2 : (l[i].kind == 2) = true := h2
      have h3 : (l[i + 1].kind == 2) = true := h3
      rw [e, h2, h3]; rfl
    · have h3 : (l[i + 1].kind == 2) = false := h3
      rw [e, h3, Bool.and_false, Bool.false_or]
    · have h2 : (l[i].kind == 2) = false := h2
      rw [e, h2, Bool.false_and, Bool.false_or]
  · have hge : l.length ≤ i + 1 := by have := of_decide_eq_false h1; omega
    refine h.no ?_
    rw [← he]
    rcases Nat.lt_or_ge i l.length with q | q
    · rw [List.drop_eq_getElem_cons q, List.drop_of_length_le hge]; rfl
    · rw [List.drop_of_length_le q]; rfl
theorem joi_holds : Holds 35 conJoi := conP_holds fun l => by
  refine fun_meets1 tok0 [] lsJoi (by kernel_rfl) (by kernel_rfl) joi_sum fun _ => Eq.mpr (vcJoiF l _) ?_
  have e : ∀ b, joinB l = b → [AV.bool b] = compsOf (.bool (joinB l)) := fun b h => by rw [h]; rfl
  exact Rq.mk rfl ⟨fun h => qfin rfl (e _ h) rfl rfl, fun h => qfin rfl (e _ h) rfl rfl⟩
theorem big_holds : Holds 40 conBig := conP_holds fun a => by
  refine fun_meets0 tok0 [] (by kernel_rfl) (by kernel_rfl) fun _ => Eq.mpr (vcBigF a _) ?_
  exact ⟨fun _ => qfin rfl rfl rfl rfl⟩
theorem idx_sum : SumOK cxIdx (LL Tryz.f58 [lsIdx]) Tryz.f58.ntmps (loopAt Tryz.f58 0).1 (loopAt Tryz.f58 0).2 lsIdx := by
  intro vs bs K hs
  unfold lsIdx at hs
  simp only at hs
  split at hs
  case h_2 => exact hs.elim
  rename_i l f m i
  rcases (show ∃ w : List At, w = l from ⟨_, rfl⟩) with ⟨l, rfl⟩
  obtain ⟨⟨rfl, rfl, rfl, hm⟩, h⟩ := hs
  refine sum_rec (σ := Nat) (fun i => [.row .attr l, .fn 40 [], .int .i64 l.length, .int .i64 (i : Nat)]) (fun _ => []) (fun i => i ≤ l.length ∧ (l.drop i).any bigA = l.any bigA ∧ ixA i (l.drop i) = ixA 0 l) (fun i => l.length - i) ?_ 0 ⟨Nat.zero_le _, rfl, rfl⟩
  rintro i ⟨hi, ha, he⟩ R hR
  refine Eq.mpr (vcIdxB l l.length i _) ⟨fun h1 => ?_, fun h1 => ?_⟩
  · have hlt : i < l.length := by have := of_decide_eq_true h1; omega
    rw [rd_atA hlt]
    rw [List.drop_eq_getElem_cons hlt, List.any_cons] at ha
    rw [List.drop_eq_getElem_cons hlt, ixA] at he
    refine Rq.mk ⟨by omega, by omega⟩ ⟨fun h2 => ?_, fun h2 => ?_⟩
    · have h2 : bigA l[i] = true := h2
      rw [if_pos h2] at he
      rw [h2, Bool.true_or] at ha
      rw [he]
      exact h.yes ha.symm
    · have h2 : bigA l[i] = false := h2
      rw [h2, Bool.false_or] at ha
      rw [if_neg (by rw [h2]; decide)] at he
      rw [wrap_succ hlt hm]
      exact hR (i + 1) ⟨hlt, ha, he⟩ (by omega)
  · have hge : l.length ≤ i := by have := of_decide_eq_false h1; omega
    rw [List.drop_of_length_le hge] at ha
    exact h.no ha.symm
theorem idx_holds : Holds 58 conIdx := conP_holds fun l _ => by
  rcases (show ∃ w : List At, w = l from ⟨_, rfl⟩) with ⟨l, rfl⟩
  refine fun_meets1 (AllH.tok (.cons big_holds (by kernel_rfl) .nil)) [] lsIdx (by kernel_rfl) (by kernel_rfl) idx_sum fun _ => Eq.mpr (vcIdxF l _) ?_
  refine ⟨fun hm => Rq.mk ⟨rfl, rfl, rfl, hm⟩ ⟨fun h => qfin rfl rfl rfl rfl, fun h => qfin rfl ?_ rfl rfl⟩⟩
  show _ = [AV.int .i64 (ixA 0 l)]
  rw [ix_neg l 0 h]
theorem cF_holds : Holds 39 conCF := conP_holds fun l _ => by
  rcases (show ∃ w : List At, w = l from ⟨_, rfl⟩) with ⟨l, rfl⟩
  refine fun_meets0 (AllH.tok (.cons idx_holds (by kernel_rfl) .nil)) [] (by kernel_rfl) (by kernel_rfl) fun _ => Eq.mpr (vcCFF l _) ?_
  refine qfin rfl ?_ rfl rfl
  show _ = [AV.bool (l.any bigA)]
  cases h : l.any bigA with
  | true => rw [decide_eq_true (show ixA 0 l ≥ 0 from ix_pos l 0 h)]
  | false => rw [ix_neg l 0 h]; rfl
theorem c1_holds : Holds 31 conC1 := by
  intro args hp ans hc
  unfold conC1 at hc
  split at hc
  case h_2 => cases hc
  rename_i c d x
  simp only [Option.bind_eq_some_iff] at hc
  obtain ⟨n, hx, hc⟩ := hc
  injection hc with hc
  subst hc
  refine Meets.weaken (args' := [.agg (nodeL n), .int .i64 d, .ptr 0 0]) (.cons (toNd_le hx) (.cons (.refl _) (.cons (.refl _) .nil))) ?_
  refine fun_meets0 tok0 [] (by kernel_rfl) (by kernel_rfl) fun hpre => Eq.mpr (vcC1F n d x _) ?_
  obtain ⟨h1, h2⟩ : okC n d x := hpre _ rfl
  refine qfin rfl rfl ?_ rfl
  have : IntKind.i64.wrap (x + 1) = x + 1 := by unfold maxSl at h2; rw [wrap_id'] <;> omega
  rw [this]; rfl
theorem d1_holds : Holds 55 conD1 := by
  intro args hp ans hc
  unfold conD1 at hc
  split at hc
  case h_2 => cases hc
  rename_i c d x
  simp only [Option.bind_eq_some_iff] at hc
  obtain ⟨n, hx, hc⟩ := hc
  injection hc with hc
  subst hc
  refine Meets.weaken (args' := [.agg (nodeL n), .int .i64 d, .ptr 0 0]) (.cons (toNd_le hx) (.cons (.refl _) (.cons (.refl _) .nil))) ?_
  refine fun_meets0 (AllH.tok (.cons leaf_holds (by kernel_rfl) .nil)) [] (by kernel_rfl) (by kernel_rfl) fun hpre => Eq.mpr (vcD1F n d x _) ?_
  simp only [nd_eta]
  refine ⟨fun h => qfin rfl rfl ?_ rfl, fun h => qfin rfl rfl ?_ rfl⟩
  · have h : leafB n = false := by simpa using h
    show _ = [Blk.box [AV.int .i64 (gD n d x)]]
    unfold gD; rw [if_neg (show ¬ leafB n = true by rw [h]; decide)]
  · have h : leafB n = true := by simpa using h
    show _ = [Blk.box [AV.int .i64 (gD n d x)]]
    unfold gD; rw [if_pos h]
theorem w1_holds : Holds 32 conW1 := by
  intro args hp ans hc
  unfold conW1 at hc
  split at hc
  case h_2 => cases hc
  rename_i c d x
  simp only [Option.bind_eq_some_iff] at hc
  obtain ⟨n, hx, hc⟩ := hc
  injection hc with hc
  subst hc
  refine Meets.weaken (args' := [.agg (nodeL n), .int .i64 d, .ptr 0 0]) (.cons (toNd_le hx) (.cons (.refl _) (.cons (.refl _) .nil))) ?_
  refine fun_meets0 (AllH.tok (.cons write_holds (by kernel_rfl) .nil)) [] (by kernel_rfl) (by kernel_rfl) fun hpre => Eq.mpr (vcW1F n d x _) ?_
  have hp : okW n d x := hpre _ rfl
  refine ⟨fun h => Rq.mk (hp h) (qfin rfl rfl ?_ rfl), fun h => qfin rfl rfl ?_ rfl⟩
  · show _ = [Blk.bld (gW n d x)]
    unfold gW; rw [if_pos h]
  · show _ = [Blk.bld (gW n d x)]
    unfold gW; rw [if_neg (fun q => by rw [show (n.kind == 2) = false from h] at q; cases q)]
theorem k1_holds : Holds 36 conK1 := by
  intro args hp ans hc
  unfold conK1 at hc
  split at hc
  case h_2 => cases hc
  rename_i c d x
  simp only [Option.bind_eq_some_iff] at hc
  obtain ⟨n, hx, hc⟩ := hc
  injection hc with hc
  subst hc
  refine Meets.weaken (args' := [.agg (nodeL n), .int .i64 d, .ptr 0 0]) (.cons (toNd_le hx) (.cons (.refl _) (.cons (.refl _) .nil))) ?_
  refine fun_meets0 (AllH.tok (.cons rig_holds (by kernel_rfl) (.cons joi_holds (by kernel_rfl) .nil))) [] (by kernel_rfl) (by kernel_rfl) fun hpre => Eq.mpr (vcK1F n d x _) ?_
  have hb : oBnd n.4 := hpre _ rfl
  simp only [nd_eta]
  have e : ∀ b, gK n d x = b → [Blk.box [AV.bool b]] = [Blk.box [AV.bool (gK n d x)]] := fun b h => by rw [h]
  refine ⟨fun h => Rq.mk hb ⟨fun h1 => qfin rfl rfl (e _ ?_) rfl, fun h1 => qfin rfl rfl (e _ ?_) rfl⟩, fun h => qfin rfl rfl (e _ ?_) rfl⟩
  · unfold gK; rw [h, h1]; rfl
  · unfold gK; rw [h, h1]; rfl
  · unfold gK; rw [h]; rfl
theorem l1_holds : Holds 38 conL1 := by
  intro args hp ans hc
  unfold conL1 at hc
  split at hc
  case h_2 => cases hc
  rename_i c d x
  simp only [Option.bind_eq_some_iff] at hc
  obtain ⟨n, hx, hc⟩ := hc
  injection hc with hc
  subst hc
  refine Meets.weaken (args' := [.agg (nodeL n), .int .i64 d, .ptr 0 0]) (.cons (toNd_le hx) (.cons (.refl _) (.cons (.refl _) .nil))) ?_
  refine fun_meets0 (AllH.tok (.cons cF_holds (by kernel_rfl) .nil)) [] (by kernel_rfl) (by kernel_rfl) fun hpre => Eq.mpr (vcL1F n d x _) ?_
  have e : ∀ b, gL n d x = b → [Blk.box [AV.bool b]] = [Blk.box [AV.bool (gL n d x)]] := fun b h => by rw [h]
  refine ⟨fun h => qfin rfl rfl (e _ ?_) rfl, fun h => ⟨fun h1 => ⟨fun _ => qfin rfl rfl (e _ ?_) rfl⟩, fun h1 => ⟨fun _ => qfin rfl rfl (e _ ?_) rfl⟩⟩⟩
  · unfold gL; rw [h]; rfl
  · have h1 : decide ((n.text.size : Int) > 65536) = true := h1
    unfold gL longN; rw [h, h1]; rfl
  · have h1 : decide ((n.text.size : Int) > 65536) = false := h1
    unfold gL longN; rw [h, h1]; rfl
theorem eC_sum (k : Nat) : SumOK (cxEC k) (LL Tryz.f30 [lsEC k]) Tryz.f30.ntmps (loopAt Tryz.f30 0).1 (loopAt Tryz.f30 0).2 (lsEC k) := by
  intro vs bs K hs
  unfold lsEC at hs
  simp only at hs
  split at hs
  case h_2 => exact hs.elim
  rename_i d f l m i s
  obtain ⟨⟨rfl, rfl, rfl, hk, h0, hn, hok⟩, h⟩ := hs
  rcases (show ∃ w : List Nd, w = l from ⟨_, rfl⟩) with ⟨l, rfl⟩
  have hlen := cnt_len l
  have hl : l.length ≤ maxSl := by omega
  refine sum_rec (σ := Nat × Int) (fun s => [.int .i64 d, .fn 31 [.ptr 0 0], .row .node l, .int .i64 l.length, .int .i64 (s.1 : Nat)]) (fun s => [.box [.int .i64 s.2]]) (fun q => q.1 ≤ l.length ∧ okNds okC gC d (l.drop q.1) q.2 ∧ eaNds gC d (l.drop q.1) q.2 = eaNds gC d l s) (fun s => l.length - s.1) ?_ (0, s) ⟨Nat.zero_le _, hok, rfl⟩
  rintro ⟨i, v⟩ ⟨hi, hv, he⟩ R hR
  dsimp only at hi hv he hR ⊢
  refine Eq.mpr (vcECB k l d l.length i v _) ⟨fun h1 => ?_, fun h1 => ?_⟩
  · have h1 : (i : Int) < (l.length : Int) := of_decide_eq_true h1
    have hi : i < l.length := by omega
    rw [List.drop_eq_getElem_cons hi, okNds, okNd_eq, eaNd_eq] at hv
    rw [List.drop_eq_getElem_cons hi, eaNds, eaNd_eq] at he
    have e3 := cnt_mem hi
    rw [cntNd_eq] at e3
    have ew : IntKind.i64.wrap (d + 1) = d + 1 := by unfold maxSl at hn; rw [wrap_id'] <;> omega
    rw [rd_nd hi, wrap_succ hi hl]
    simp only [nd_eta]
    rw [ew]
    exact ⟨⟨by omega, h1⟩, ⟨hv.1.1, ⟨⟨by omega, by omega, by omega, hv.1.2⟩, hR (i + 1, eaNds gC (d + 1) l[i].kids (gC l[i] d v)) ⟨hi, hv.2, he⟩ (by dsimp only; omega)⟩⟩⟩
  · have h1 : ¬ (i : Int) < (l.length : Int) := of_decide_eq_false h1
    rw [List.drop_of_length_le (by omega), eaNds] at he
    rw [he]
    exact h
theorem eC_lt : ∀ k, Holds 30 (conECLt k)
  | 0 => by
    intro args hp ans hc
    unfold conECLt at hc
    split at hc
    case h_2 => cases hc
    split at hc
    case h_2 => cases hc
    simp only [Option.bind_eq_some_iff] at hc
    obtain ⟨a, hx, hc⟩ := hc
    injection hc with hc
    subst hc
    intro F I w vals hH hv hpre
    exact absurd (hpre _ rfl).1 (Nat.not_lt_zero _)
  | k + 1 => by
    intro args hp ans hc
    unfold conECLt at hc
    split at hc
    case h_2 => cases hc
    rename_i x d f s
    split at hc
    case h_2 => cases hc
    rename_i hf
    have hf := Nat.eq_of_beq_eq_true hf
    subst hf
    simp only [Option.bind_eq_some_iff] at hc
    obtain ⟨l, hx, hc⟩ := hc
    injection hc with hc
    subst hc
    refine Meets.weaken (args' := [.row .node l, .int .i64 d, .fn 31 [.ptr 0 0]]) (.cons (rowOf_le hx) (.cons (.refl _) (.cons (.refl _) .nil))) ?_
    refine fun_meets1S (AllH.tok (.cons c1_holds (by kernel_rfl) (.cons (eC_lt k) (by kernel_rfl) .nil))) [.cap 2 0] [] (lsEC k) (by kernel_rfl) (by kernel_rfl) (eC_sum k) fun hpre => Eq.mpr (vcECF k l d s _) ?_
    obtain ⟨h1, h2, h3, h4⟩ := hpre _ rfl
    exact ⟨fun _ => ⟨⟨rfl, rfl, rfl, h1, h2, h3, h4⟩, qfin rfl rfl rfl rfl⟩⟩
theorem eC_holds : Holds 30 conEC := by
  intro args hp ans hc
  unfold conEC at hc
  split at hc
  case h_2 => cases hc
  rename_i x d f s
  split at hc
  case h_2 => cases hc
  rename_i hf
  have hf := Nat.eq_of_beq_eq_true hf
  subst hf
  simp only [Option.bind_eq_some_iff] at hc
  obtain ⟨l, hx, hc⟩ := hc
  injection hc with hc
  subst hc
  rcases (show ∃ w : List Nd, w = l from ⟨_, rfl⟩) with ⟨l, rfl⟩
  have := eC_lt (cntNds l + 1) [x, .int .i64 d, .fn 31 [.ptr 0 0]] [.box [.int .i64 s]] { pre := some (cntNds l < cntNds l + 1 ∧ 0 ≤ d ∧ d + cntNds l ≤ maxSl ∧ okNds okC gC d l s), res := .tup [], hp := [.box [.int .i64 (eaNds gC d l s)]] } (by unfold conECLt; simp only [hx, Option.bind_some])
  exact fun F I w vals hH hv hpre => this F I w vals hH hv (fun p hp => by injection hp with hp; subst hp; exact ⟨Nat.lt_succ_self _, hpre _ rfl⟩)
theorem eD_sum (k : Nat) : SumOK (cxED k) (LL Tryz.f30 [lsED k]) Tryz.f30.ntmps (loopAt Tryz.f30 0).1 (loopAt Tryz.f30 0).2 (lsED k) := by
  intro vs bs K hs
  unfold lsED at hs
  simp only at hs
  split at hs
  case h_2 => exact hs.elim
  rename_i d f l m i s
  obtain ⟨⟨rfl, rfl, rfl, hk, h0, hn, hok⟩, h⟩ := hs
  rcases (show ∃ w : List Nd, w = l from ⟨_, rfl⟩) with ⟨l, rfl⟩
  have hlen := cnt_len l
  have hl : l.length ≤ maxSl := by omega
  refine sum_rec (σ := Nat × Int) (fun s => [.int .i64 d, .fn 55 [.ptr 0 0], .row .node l, .int .i64 l.length, .int .i64 (s.1 : Nat)]) (fun s => [.box [.int .i64 s.2]]) (fun q => q.1 ≤ l.length ∧ okNds okD gD d (l.drop q.1) q.2 ∧ eaNds gD d (l.drop q.1) q.2 = eaNds gD d l s) (fun s => l.length - s.1) ?_ (0, s) ⟨Nat.zero_le _, hok, rfl⟩
  rintro ⟨i, v⟩ ⟨hi, hv, he⟩ R hR
  dsimp only at hi hv he hR ⊢
  refine Eq.mpr (vcEDB k l d l.length i v _) ⟨fun h1 => ?_, fun h1 => ?_⟩
  · have h1 : (i : Int) < (l.length : Int) := of_decide_eq_true h1
    have hi : i < l.length := by omega
    rw [List.drop_eq_getElem_cons hi, okNds, okNd_eq, eaNd_eq] at hv
    rw [List.drop_eq_getElem_cons hi, eaNds, eaNd_eq] at he
    have e3 := cnt_mem hi
    rw [cntNd_eq] at e3
    have ew : IntKind.i64.wrap (d + 1) = d + 1 := by unfold maxSl at hn; rw [wrap_id'] <;> omega
    rw [rd_nd hi, wrap_succ hi hl]
    simp only [nd_eta]
    rw [ew]
    exact ⟨⟨by omega, h1⟩, ⟨hv.1.1, ⟨⟨by omega, by omega, by omega, hv.1.2⟩, hR (i + 1, eaNds gD (d + 1) l[i].kids (gD l[i] d v)) ⟨hi, hv.2, he⟩ (by dsimp only; omega)⟩⟩⟩
  · have h1 : ¬ (i : Int) < (l.length : Int) := of_decide_eq_false h1
    rw [List.drop_of_length_le (by omega), eaNds] at he
    rw [he]
    exact h
theorem eD_lt : ∀ k, Holds 30 (conEDLt k)
  | 0 => by
    intro args hp ans hc
    unfold conEDLt at hc
    split at hc
    case h_2 => cases hc
    split at hc
    case h_2 => cases hc
    simp only [Option.bind_eq_some_iff] at hc
    obtain ⟨a, hx, hc⟩ := hc
    injection hc with hc
    subst hc
    intro F I w vals hH hv hpre
    exact absurd (hpre _ rfl).1 (Nat.not_lt_zero _)
  | k + 1 => by
    intro args hp ans hc
    unfold conEDLt at hc
    split at hc
    case h_2 => cases hc
    rename_i x d f s
    split at hc
    case h_2 => cases hc
    rename_i hf
    have hf := Nat.eq_of_beq_eq_true hf
    subst hf
    simp only [Option.bind_eq_some_iff] at hc
    obtain ⟨l, hx, hc⟩ := hc
    injection hc with hc
    subst hc
    refine Meets.weaken (args' := [.row .node l, .int .i64 d, .fn 55 [.ptr 0 0]]) (.cons (rowOf_le hx) (.cons (.refl _) (.cons (.refl _) .nil))) ?_
    refine fun_meets1S (AllH.tok (.cons d1_holds (by kernel_rfl) (.cons (eD_lt k) (by kernel_rfl) .nil))) [.cap 2 0] [] (lsED k) (by kernel_rfl) (by kernel_rfl) (eD_sum k) fun hpre => Eq.mpr (vcEDF k l d s _) ?_
    obtain ⟨h1, h2, h3, h4⟩ := hpre _ rfl
    exact ⟨fun _ => ⟨⟨rfl, rfl, rfl, h1, h2, h3, h4⟩, qfin rfl rfl rfl rfl⟩⟩
theorem eD_holds : Holds 30 conED := by
  intro args hp ans hc
  unfold conED at hc
  split at hc
  case h_2 => cases hc
  rename_i x d f s
  split at hc
  case h_2 => cases hc
  rename_i hf
  have hf := Nat.eq_of_beq_eq_true hf
  subst hf
  simp only [Option.bind_eq_some_iff] at hc
  obtain ⟨l, hx, hc⟩ := hc
  injection hc with hc
  subst hc
  rcases (show ∃ w : List Nd, w = l from ⟨_, rfl⟩) with ⟨l, rfl⟩
  have := eD_lt (cntNds l + 1) [x, .int .i64 d, .fn 55 [.ptr 0 0]] [.box [.int .i64 s]] { pre := some (cntNds l < cntNds l + 1 ∧ 0 ≤ d ∧ d + cntNds l ≤ maxSl ∧ okNds okD gD d l s), res := .tup [], hp := [.box [.int .i64 (eaNds gD d l s)]] } (by unfold conEDLt; simp only [hx, Option.bind_some])
  exact fun F I w vals hH hv hpre => this F I w vals hH hv (fun p hp => by injection hp with hp; subst hp; exact ⟨Nat.lt_succ_self _, hpre _ rfl⟩)
theorem eW_sum (k : Nat) : SumOK (cxEW k) (LL Tryz.f30 [lsEW k]) Tryz.f30.ntmps (loopAt Tryz.f30 0).1 (loopAt Tryz.f30 0).2 (lsEW k) := by
  intro vs bs K hs
  unfold lsEW at hs
  simp only at hs
  split at hs
  case h_2 => exact hs.elim
  rename_i d f l m i s
  obtain ⟨⟨rfl, rfl, rfl, hk, h0, hn, hok⟩, h⟩ := hs
  rcases (show ∃ w : List Nd, w = l from ⟨_, rfl⟩) with ⟨l, rfl⟩
  have hlen := cnt_len l
  have hl : l.length ≤ maxSl := by omega
  refine sum_rec (σ := Nat × ByteArray) (fun s => [.int .i64 d, .fn 32 [.ptr 0 0], .row .node l, .int .i64 l.length, .int .i64 (s.1 : Nat)]) (fun s => [.bld s.2]) (fun q => q.1 ≤ l.length ∧ okNds okW gW d (l.drop q.1) q.2 ∧ eaNds gW d (l.drop q.1) q.2 = eaNds gW d l s) (fun s => l.length - s.1) ?_ (0, s) ⟨Nat.zero_le _, hok, rfl⟩
  rintro ⟨i, v⟩ ⟨hi, hv, he⟩ R hR
  dsimp only at hi hv he hR ⊢
  refine Eq.mpr (vcEWB k l d l.length i v _) ⟨fun h1 => ?_, fun h1 => ?_⟩
  · have h1 : (i : Int) < (l.length : Int) := of_decide_eq_true h1
    have hi : i < l.length := by omega
    rw [List.drop_eq_getElem_cons hi, okNds, okNd_eq, eaNd_eq] at hv
    rw [List.drop_eq_getElem_cons hi, eaNds, eaNd_eq] at he
    have e3 := cnt_mem hi
    rw [cntNd_eq] at e3
    have ew : IntKind.i64.wrap (d + 1) = d + 1 := by unfold maxSl at hn; rw [wrap_id'] <;> omega
    rw [rd_nd hi, wrap_succ hi hl]
    simp only [nd_eta]
    rw [ew]
    exact ⟨⟨by omega, h1⟩, ⟨hv.1.1, ⟨⟨by omega, by omega, by omega, hv.1.2⟩, hR (i + 1, eaNds gW (d + 1) l[i].kids (gW l[i] d v)) ⟨hi, hv.2, he⟩ (by dsimp only; omega)⟩⟩⟩
  · have h1 : ¬ (i : Int) < (l.length : Int) := of_decide_eq_false h1
    rw [List.drop_of_length_le (by omega), eaNds] at he
    rw [he]
    exact h
theorem eW_lt : ∀ k, Holds 30 (conEWLt k)
  | 0 => by
    intro args hp ans hc
    unfold conEWLt at hc
    split at hc
    case h_2 => cases hc
    split at hc
    case h_2 => cases hc
    simp only [Option.bind_eq_some_iff] at hc
    obtain ⟨a, hx, hc⟩ := hc
    injection hc with hc
    subst hc
    intro F I w vals hH hv hpre
    exact absurd (hpre _ rfl).1 (Nat.not_lt_zero _)
  | k + 1 => by
    intro args hp ans hc
    unfold conEWLt at hc
    split at hc
    case h_2 => cases hc
    rename_i x d f s
    split at hc
    case h_2 => cases hc
    rename_i hf
    have hf := Nat.eq_of_beq_eq_true hf
    subst hf
    simp only [Option.bind_eq_some_iff] at hc
    obtain ⟨l, hx, hc⟩ := hc
    injection hc with hc
    subst hc
    refine Meets.weaken (args' := [.row .node l, .int .i64 d, .fn 32 [.ptr 0 0]]) (.cons (rowOf_le hx) (.cons (.refl _) (.cons (.refl _) .nil))) ?_
    refine fun_meets1S (AllH.tok (.cons w1_holds (by kernel_rfl) (.cons (eW_lt k) (by kernel_rfl) .nil))) [.cap 2 0] [] (lsEW k) (by kernel_rfl) (by kernel_rfl) (eW_sum k) fun hpre => Eq.mpr (vcEWF k l d s _) ?_
    obtain ⟨h1, h2, h3, h4⟩ := hpre _ rfl
    exact ⟨fun _ => ⟨⟨rfl, rfl, rfl, h1, h2, h3, h4⟩, qfin rfl rfl rfl rfl⟩⟩
theorem eW_holds : Holds 30 conEW := by
  intro args hp ans hc
  unfold conEW at hc
  split at hc
  case h_2 => cases hc
  rename_i x d f s
  split at hc
  case h_2 => cases hc
  rename_i hf
  have hf := Nat.eq_of_beq_eq_true hf
  subst hf
  simp only [Option.bind_eq_some_iff] at hc
  obtain ⟨l, hx, hc⟩ := hc
  injection hc with hc
  subst hc
  rcases (show ∃ w : List Nd, w = l from ⟨_, rfl⟩) with ⟨l, rfl⟩
  have := eW_lt (cntNds l + 1) [x, .int .i64 d, .fn 32 [.ptr 0 0]] [.bld s] { pre := some (cntNds l < cntNds l + 1 ∧ 0 ≤ d ∧ d + cntNds l ≤ maxSl ∧ okNds okW gW d l s), res := .tup [], hp := [.bld (eaNds gW d l s)] } (by unfold conEWLt; simp only [hx, Option.bind_some])
  exact fun F I w vals hH hv hpre => this F I w vals hH hv (fun p hp => by injection hp with hp; subst hp; exact ⟨Nat.lt_succ_self _, hpre _ rfl⟩)
theorem eK_sum (k : Nat) : SumOK (cxEK k) (LL Tryz.f30 [lsEK k]) Tryz.f30.ntmps (loopAt Tryz.f30 0).1 (loopAt Tryz.f30 0).2 (lsEK k) := by
  intro vs bs K hs
  unfold lsEK at hs
  simp only at hs
  split at hs
  case h_2 => exact hs.elim
  rename_i d f l m i s
  obtain ⟨⟨rfl, rfl, rfl, hk, h0, hn, hok⟩, h⟩ := hs
  rcases (show ∃ w : List Nd, w = l from ⟨_, rfl⟩) with ⟨l, rfl⟩
  have hlen := cnt_len l
  have hl : l.length ≤ maxSl := by omega
  refine sum_rec (σ := Nat × Bool) (fun s => [.int .i64 d, .fn 36 [.ptr 0 0], .row .node l, .int .i64 l.length, .int .i64 (s.1 : Nat)]) (fun s => [.box [.bool s.2]]) (fun q => q.1 ≤ l.length ∧ okNds okK gK d (l.drop q.1) q.2 ∧ eaNds gK d (l.drop q.1) q.2 = eaNds gK d l s) (fun s => l.length - s.1) ?_ (0, s) ⟨Nat.zero_le _, hok, rfl⟩
  rintro ⟨i, v⟩ ⟨hi, hv, he⟩ R hR
  dsimp only at hi hv he hR ⊢
  refine Eq.mpr (vcEKB k l d l.length i v _) ⟨fun h1 => ?_, fun h1 => ?_⟩
  · have h1 : (i : Int) < (l.length : Int) := of_decide_eq_true h1
    have hi : i < l.length := by omega
    rw [List.drop_eq_getElem_cons hi, okNds, okNd_eq, eaNd_eq] at hv
    rw [List.drop_eq_getElem_cons hi, eaNds, eaNd_eq] at he
    have e3 := cnt_mem hi
    rw [cntNd_eq] at e3
    have ew : IntKind.i64.wrap (d + 1) = d + 1 := by unfold maxSl at hn; rw [wrap_id'] <;> omega
    rw [rd_nd hi, wrap_succ hi hl]
    simp only [nd_eta]
    rw [ew]
    exact ⟨⟨by omega, h1⟩, ⟨hv.1.1, ⟨⟨by omega, by omega, by omega, hv.1.2⟩, hR (i + 1, eaNds gK (d + 1) l[i].kids (gK l[i] d v)) ⟨hi, hv.2, he⟩ (by dsimp only; omega)⟩⟩⟩
  · have h1 : ¬ (i : Int) < (l.length : Int) := of_decide_eq_false h1
    rw [List.drop_of_length_le (by omega), eaNds] at he
    rw [he]
    exact h
theorem eK_lt : ∀ k, Holds 30 (conEKLt k)
  | 0 => by
    intro args hp ans hc
    unfold conEKLt at hc
    split at hc
    case h_2 => cases hc
    split at hc
    case h_2 => cases hc
    simp only [Option.bind_eq_some_iff] at hc
    obtain ⟨a, hx, hc⟩ := hc
    injection hc with hc
    subst hc
    intro F I w vals hH hv hpre
    exact absurd (hpre _ rfl).1 (Nat.not_lt_zero _)
  | k + 1 => by
    intro args hp ans hc
    unfold conEKLt at hc
    split at hc
    case h_2 => cases hc
    rename_i x d f s
    split at hc
    case h_2 => cases hc
    rename_i hf
    have hf := Nat.eq_of_beq_eq_true hf
    subst hf
    simp only [Option.bind_eq_some_iff] at hc
    obtain ⟨l, hx, hc⟩ := hc
    injection hc with hc
    subst hc
    refine Meets.weaken (args' := [.row .node l, .int .i64 d, .fn 36 [.ptr 0 0]]) (.cons (rowOf_le hx) (.cons (.refl _) (.cons (.refl _) .nil))) ?_
    refine fun_meets1S (AllH.tok (.cons k1_holds (by kernel_rfl) (.cons (eK_lt k) (by kernel_rfl) .nil))) [.cap 2 0] [] (lsEK k) (by kernel_rfl) (by kernel_rfl) (eK_sum k) fun hpre => Eq.mpr (vcEKF k l d s _) ?_
    obtain ⟨h1, h2, h3, h4⟩ := hpre _ rfl
    exact ⟨fun _ => ⟨⟨rfl, rfl, rfl, h1, h2, h3, h4⟩, qfin rfl rfl rfl rfl⟩⟩
theorem eK_holds : Holds 30 conEK := by
  intro args hp ans hc
  unfold conEK at hc
  split at hc
  case h_2 => cases hc
  rename_i x d f s
  split at hc
  case h_2 => cases hc
  rename_i hf
  have hf := Nat.eq_of_beq_eq_true hf
  subst hf
  simp only [Option.bind_eq_some_iff] at hc
  obtain ⟨l, hx, hc⟩ := hc
  injection hc with hc
  subst hc
  rcases (show ∃ w : List Nd, w = l from ⟨_, rfl⟩) with ⟨l, rfl⟩
  have := eK_lt (cntNds l + 1) [x, .int .i64 d, .fn 36 [.ptr 0 0]] [.box [.bool s]] { pre := some (cntNds l < cntNds l + 1 ∧ 0 ≤ d ∧ d + cntNds l ≤ maxSl ∧ okNds okK gK d l s), res := .tup [], hp := [.box [.bool (eaNds gK d l s)]] } (by unfold conEKLt; simp only [hx, Option.bind_some])
  exact fun F I w vals hH hv hpre => this F I w vals hH hv (fun p hp => by injection hp with hp; subst hp; exact ⟨Nat.lt_succ_self _, hpre _ rfl⟩)
theorem eL_sum (k : Nat) : SumOK (cxEL k) (LL Tryz.f30 [lsEL k]) Tryz.f30.ntmps (loopAt Tryz.f30 0).1 (loopAt Tryz.f30 0).2 (lsEL k) := by
  intro vs bs K hs
  unfold lsEL at hs
  simp only at hs
  split at hs
  case h_2 => exact hs.elim
  rename_i d f l m i s
  obtain ⟨⟨rfl, rfl, rfl, hk, h0, hn, hok⟩, h⟩ := hs
  rcases (show ∃ w : List Nd, w = l from ⟨_, rfl⟩) with ⟨l, rfl⟩
  have hlen := cnt_len l
  have hl : l.length ≤ maxSl := by omega
  refine sum_rec (σ := Nat × Bool) (fun s => [.int .i64 d, .fn 38 [.ptr 0 0], .row .node l, .int .i64 l.length, .int .i64 (s.1 : Nat)]) (fun s => [.box [.bool s.2]]) (fun q => q.1 ≤ l.length ∧ okNds okL gL d (l.drop q.1) q.2 ∧ eaNds gL d (l.drop q.1) q.2 = eaNds gL d l s) (fun s => l.length - s.1) ?_ (0, s) ⟨Nat.zero_le _, hok, rfl⟩
  rintro ⟨i, v⟩ ⟨hi, hv, he⟩ R hR
  dsimp only at hi hv he hR ⊢
  refine Eq.mpr (vcELB k l d l.length i v _) ⟨fun h1 => ?_, fun h1 => ?_⟩
  · have h1 : (i : Int) < (l.length : Int) := of_decide_eq_true h1
    have hi : i < l.length := by omega
    rw [List.drop_eq_getElem_cons hi, okNds, okNd_eq, eaNd_eq] at hv
    rw [List.drop_eq_getElem_cons hi, eaNds, eaNd_eq] at he
    have e3 := cnt_mem hi
    rw [cntNd_eq] at e3
    have ew : IntKind.i64.wrap (d + 1) = d + 1 := by unfold maxSl at hn; rw [wrap_id'] <;> omega
    rw [rd_nd hi, wrap_succ hi hl]
    simp only [nd_eta]
    rw [ew]
    exact ⟨⟨by omega, h1⟩, ⟨hv.1.1, ⟨⟨by omega, by omega, by omega, hv.1.2⟩, hR (i + 1, eaNds gL (d + 1) l[i].kids (gL l[i] d v)) ⟨hi, hv.2, he⟩ (by dsimp only; omega)⟩⟩⟩
  · have h1 : ¬ (i : Int) < (l.length : Int) := of_decide_eq_false h1
    rw [List.drop_of_length_le (by omega), eaNds] at he
    rw [he]
    exact h
theorem eL_lt : ∀ k, Holds 30 (conELLt k)
  | 0 => by
    intro args hp ans hc
    unfold conELLt at hc
    split at hc
    case h_2 => cases hc
    split at hc
    case h_2 => cases hc
    simp only [Option.bind_eq_some_iff] at hc
    obtain ⟨a, hx, hc⟩ := hc
    injection hc with hc
    subst hc
    intro F I w vals hH hv hpre
    exact absurd (hpre _ rfl).1 (Nat.not_lt_zero _)
  | k + 1 => by
    intro args hp ans hc
    unfold conELLt at hc
    split at hc
    case h_2 => cases hc
    rename_i x d f s
    split at hc
    case h_2 => cases hc
    rename_i hf
    have hf := Nat.eq_of_beq_eq_true hf
    subst hf
    simp only [Option.bind_eq_some_iff] at hc
    obtain ⟨l, hx, hc⟩ := hc
    injection hc with hc
    subst hc
    refine Meets.weaken (args' := [.row .node l, .int .i64 d, .fn 38 [.ptr 0 0]]) (.cons (rowOf_le hx) (.cons (.refl _) (.cons (.refl _) .nil))) ?_
    refine fun_meets1S (AllH.tok (.cons l1_holds (by kernel_rfl) (.cons (eL_lt k) (by kernel_rfl) .nil))) [.cap 2 0] [] (lsEL k) (by kernel_rfl) (by kernel_rfl) (eL_sum k) fun hpre => Eq.mpr (vcELF k l d s _) ?_
    obtain ⟨h1, h2, h3, h4⟩ := hpre _ rfl
    exact ⟨fun _ => ⟨⟨rfl, rfl, rfl, h1, h2, h3, h4⟩, qfin rfl rfl rfl rfl⟩⟩
theorem eL_holds : Holds 30 conEL := by
  intro args hp ans hc
  unfold conEL at hc
  split at hc
  case h_2 => cases hc
  rename_i x d f s
  split at hc
  case h_2 => cases hc
  rename_i hf
  have hf := Nat.eq_of_beq_eq_true hf
  subst hf
  simp only [Option.bind_eq_some_iff] at hc
  obtain ⟨l, hx, hc⟩ := hc
  injection hc with hc
  subst hc
  rcases (show ∃ w : List Nd, w = l from ⟨_, rfl⟩) with ⟨l, rfl⟩
  have := eL_lt (cntNds l + 1) [x, .int .i64 d, .fn 38 [.ptr 0 0]] [.box [.bool s]] { pre := some (cntNds l < cntNds l + 1 ∧ 0 ≤ d ∧ d + cntNds l ≤ maxSl ∧ okNds okL gL d l s), res := .tup [], hp := [.box [.bool (eaNds gL d l s)]] } (by unfold conELLt; simp only [hx, Option.bind_some])
  exact fun F I w vals hH hv hpre => this F I w vals hH hv (fun p hp => by injection hp with hp; subst hp; exact ⟨Nat.lt_succ_self _, hpre _ rfl⟩)
theorem cou_holds : Holds 14 conCou := conP_holds fun l => by
  rcases (show ∃ w : List Nd, w = l from ⟨_, rfl⟩) with ⟨l, rfl⟩
  refine fun_meets0 (AllH.tok (.cons eC_holds (by kernel_rfl) .nil)) [] (by kernel_rfl) (by kernel_rfl) fun hpre => Eq.mpr (vcCouF l _) ?_
  have h : cntNds l < 1000000 := hpre _ rfl
  have hmx : maxSl = 140737488355328 := rfl
  refine Rq.mk ⟨by decide, by omega, okCs_of l _ _ (Int.le_refl _) (by omega)⟩ (qfin rfl ?_ rfl rfl)
  rw [eaCs, Int.zero_add]; rfl
theorem dep_holds : Holds 34 conDep := conP_holds fun l => by
  rcases (show ∃ w : List Nd, w = l from ⟨_, rfl⟩) with ⟨l, rfl⟩
  refine fun_meets0 (AllH.tok (.cons eD_holds (by kernel_rfl) .nil)) [] (by kernel_rfl) (by kernel_rfl) fun hpre => Eq.mpr (vcDepF l _) ?_
  have h : cntNds l < 1000000 := hpre _ rfl
  have hmx : maxSl = 140737488355328 := rfl
  refine Rq.mk ⟨by decide, by omega, okDs_of l _ _⟩ (qfin rfl ?_ rfl rfl)
  rw [eaDs]; rfl
theorem wor_holds : Holds 15 conWor := conP_holds fun l => by
  rcases (show ∃ w : List Nd, w = l from ⟨_, rfl⟩) with ⟨l, rfl⟩
  refine fun_meets0 (AllH.tok (.cons eW_holds (by kernel_rfl) (.cons string_holds (by kernel_rfl) .nil))) [] (by kernel_rfl) (by kernel_rfl) fun hpre => Eq.mpr (vcWorF l _) ?_
  obtain ⟨h, hb⟩ : fineNds l := hpre _ rfl
  have hmx : maxSl = 140737488355328 := rfl
  have hs : (wdNds l ⟨#[]⟩).size ≤ maxSl := by
    have h1 := wds_le l ⟨#[]⟩ hb
    have h2 : (ByteArray.mk #[]).size = 0 := rfl
    omega
  refine Rq.mk ⟨by decide, by omega, okWs_of l _ _ hs⟩ (Rq.mk (by rw [eaWs]; exact hs) (qfin rfl ?_ rfl rfl))
  rw [eaWs]; rfl
theorem chk_holds : Holds 16 conChk := conP_holds fun l => by
  rcases (show ∃ w : List Nd, w = l from ⟨_, rfl⟩) with ⟨l, rfl⟩
  refine fun_meets0 (AllH.tok (.cons cou_holds (by kernel_rfl) (.cons dep_holds (by kernel_rfl) (.cons joi_holds (by kernel_rfl) (.cons eK_holds (by kernel_rfl) .nil))))) [] (by kernel_rfl) (by kernel_rfl) fun hpre => Eq.mpr (vcChkF l _) ?_
  obtain ⟨h, hb⟩ : fineNds l := hpre _ rfl
  have hmx : maxSl = 140737488355328 := rfl
  have e : ∀ b, checkS l = b → [AV.int .i64 b] = compsOf (.int .i64 (checkS l)) := fun b h => by rw [h]; rfl
  rw [eaKs]
  refine Rq.mk h ⟨fun h1 => qfin rfl (e _ ?_) rfl rfl, fun h1 => Rq.mk h ⟨fun h2 => qfin rfl (e _ ?_) rfl rfl, fun h2 => Rq.mk ⟨by decide, by omega, okKs_of l _ _ hb⟩ ⟨fun h3 => qfin rfl (e _ ?_) rfl rfl, fun h3 => qfin rfl (e _ ?_) rfl rfl⟩⟩⟩
  · unfold checkS; rw [h1]; rfl
  · unfold checkS; rw [h2, Bool.or_true]; rfl
  · unfold checkS
    have h3 : (!joinB l && allBs l) = false := by rw [← Bool.not_eq_true']; exact h3
    rw [h1, h2, h3]; rfl
  · unfold checkS
    have h3 : (!joinB l && allBs l) = true := by rw [← Bool.not_eq_false']; exact h3
    rw [h1, h2, h3]; rfl
theorem too_holds : Holds 17 conToo := conP_holds fun n => by
  rcases (show ∃ w : Nd, w = n from ⟨_, rfl⟩) with ⟨n, rfl⟩
  refine fun_meets0 (AllH.tok (.cons eL_holds (by kernel_rfl) .nil)) [] (by kernel_rfl) (by kernel_rfl) fun hpre => Eq.mpr (vcTooF n _) ?_
  have h : cntNd n < 1000000 := hpre _ rfl
  have hmx : maxSl = 140737488355328 := rfl
  simp only [nd_eta]
  refine Rq.mk ⟨by decide, by rw [cnt_one]; omega, okLs_of _ _ _⟩ (qfin rfl ?_ rfl rfl)
  rw [eaLs, lonNds, lonNds, Bool.or_false, Bool.false_or]; rfl
end Go.Proofs.YtpbpabadbipfdaaGreatDoor.AX
end
section
namespace Go.Proofs.YtpbpabadbipfdaaGreatDoor.AXP
open Go Go.Proofs.YtpbpabadbipfdaaGreatDoor.AX
def attF (t : ByteArray) : List At → ByteArray
  | [] => t
  | a :: l => attF (t ++ (txtQ a.name ++ txtQ a.value)) l
mutual
/-- What put writes, behind what stands there. -/
def putN (b : ByteArray) : Nd → ByteArray
  | ⟨k, s, m, a, t, c⟩ => if (k == 2 || k == 3) = true then b ++ numS k ++ txtQ t else putG (attF (b ++ numS k ++ (numS s ++ txtQ m ++ numS a.length)) a ++ numS c.length) c
def putG (b : ByteArray) : List Nd → ByteArray
  | [] => b
  | n :: l => putG (putN b n) l
end
def putF (b : ByteArray) (l : List Nd) : ByteArray := putG (b ++ numS l.length) l
def bytE (l : List Nd) : Int := if checkS l = 0 then (if lonNds l = true then 2 else 0) else checkS l
def bytS (l : List Nd) : ByteArray := if bytE l = 0 then putF ⟨#[]⟩ l else ⟨#[]⟩
end Go.Proofs.YtpbpabadbipfdaaGreatDoor.AXP
namespace Go.Proofs.YtpbpabadbipfdaaGreatDoor.AX
open Go AXP
noncomputable def conPutLt (k : Nat) : Con := fun args hp => match args, hp with
  | [.ptr 0 0, x], [.bld t] => (rowOf .node x).bind fun (l : List Nd) => some { pre := some (cntNds l < k ∧ (putF t l).size ≤ maxSl), res := .tup [], hp := [.bld (putF t l)] }
  | _, _ => none
noncomputable def cxPut (k : Nat) : Cx := cxT (tabLook [(41, conTn), (43, conTt), (42, conLeaf), (33, conWrite), (18, conPutLt k)])
def lsPutO (k : Nat) : LS where
  keep := [(0, .as), (13, .as), (14, .as), (15, .as)]
  left := [(0, .as)]
  sum := fun vs bs K => match vs, bs with
    | [.ptr 0 0, .row .node l, .int .i64 m, .int .i64 i], [.bld t] => Rq (m = l.length ∧ i = 0 ∧ cntNds l < k + 1 ∧ l.length ≤ maxSl ∧ (putG t l).size ≤ maxSl) (K (.exit 0) [.ptr 0 0] [.bld (putG t l)])
    | _, _ => False
def lsPutA : LS where
  keep := [(0, .as), (5, .as), (13, .as), (14, .as), (15, .as), (46, .as), (47, .as), (48, .as)]
  left := [(0, .as), (5, .as), (13, .as), (14, .as), (15, .as)]
  sum := fun vs bs K => match vs, bs with
    | [.ptr 0 0, .ptr 1 0, .row .node l, .int .i64 m, .int .i64 j, .row .attr a, .int .i64 q, .int .i64 i], [.bld t, .box [.int .i64 c0, .int .i64 c1, .str c2, .row .attr c3, .str c4, .row .node c5]] => Rq (q = a.length ∧ i = 0 ∧ a.length ≤ maxSl ∧ (attF t a).size ≤ maxSl) (K (.exit 2) [.ptr 0 0, .ptr 1 0, .row .node l, .int .i64 m, .int .i64 j] [.bld (attF t a), .box [.int .i64 c0, .int .i64 c1, .str c2, .row .attr c3, .str c4, .row .node c5]])
    | _, _ => False
noncomputable def conPut : Con := fun args hp => match args, hp with
  | [.ptr 0 0, x], [.bld t] => (rowOf .node x).bind fun (l : List Nd) => some { pre := some ((putF t l).size ≤ maxSl), res := .tup [], hp := [.bld (putF t l)] }
  | _, _ => none
noncomputable def cxByts : Cx := cxT (tabLook [(16, conChk), (17, conToo), (18, conPut), (19, conString)])
def lsByts : LS where
  keep := [(0, .as), (13, .as), (14, .as), (15, .as)]
  left := [(0, .as), (2, .as), (3, .as)]
  sum := fun vs bs K => match vs, bs with
    | [.row .node l, .row .node l', .int .i64 m, .int .i64 i], [] => Rq (l' = l ∧ m = l.length ∧ i = 0 ∧ cntNds l < 1000000) (Br (lonNds l) (K .ret [.row .node l, .str ⟨#[]⟩, .int .i64 2] []) (K (.exit 0) [.row .node l, .any, .any] []))
    | _, _ => False
def conByts : Con := conP [.row .node] fun (l : List Nd) => { pre := some (fineNds l), res := .tup [.str (bytS l), .int .i64 (bytE l)] }
end Go.Proofs.YtpbpabadbipfdaaGreatDoor.AX
end
section
namespace Go.Proofs.YtpbpabadbipfdaaGreatDoor.AX
open Go AXP
set_option maxRecDepth 100000
theorem vcPutA (k : Nat) (n : Nd) (t : ByteArray) (l : List Nd) (a : List At) (m j q i : Int) (K : Ex → List AV → List Blk → Prop) : (bodyA (cxPut k) (LL Tryz.f18 [lsPutO k, lsPutA]) Tryz.f18.ntmps (loopAt Tryz.f18 1).1 (loopAt Tryz.f18 1).2 lsPutA.keep lsPutA.left K [.ptr 0 0, .ptr 1 0, .row .node l, .int .i64 m, .int .i64 j, .row .attr a, .int .i64 q, .int .i64 i] [.bld t, .box (nodeL n)]) = (
Br (decide (i < q))
  (Rq ((0 : Int) ≤ i ∧ i < (↑a.length : Int))
    (Rq ((txtQ (rd Ty.attr a i).1).size + (txtQ (rd Ty.attr a i).2).size ≤ maxSl)
      (Rq (t.size + (txtQ (rd Ty.attr a i).1 ++ txtQ (rd Ty.attr a i).2).size ≤ maxSl)
        (K Ex.norm
          [AV.ptr (0 : Nat) (0 : Nat), AV.ptr ((0 : Nat) + (1 : Nat)) (0 : Nat), AV.row Ty.node l, AV.int IntKind.i64 m,
            AV.int IntKind.i64 j, AV.row Ty.attr a, AV.int IntKind.i64 q,
            AV.int IntKind.i64 (IntKind.i64.wrap (i + (1 : Int)))]
          [Blk.bld (t ++ (txtQ (rd Ty.attr a i).1 ++ txtQ (rd Ty.attr a i).2)),
            Blk.box
              [AV.int IntKind.i64 n.1, AV.int IntKind.i64 n.2, AV.str n.3, AV.row Ty.attr n.4, AV.str n.5,
                AV.row Ty.node n.6]]))))
  (K (Ex.exit (2 : Nat))
    [AV.ptr (0 : Nat) (0 : Nat), AV.ptr ((0 : Nat) + (1 : Nat)) (0 : Nat), AV.row Ty.node l, AV.int IntKind.i64 m,
      AV.int IntKind.i64 j]
    [Blk.bld t,
      Blk.box
        [AV.int IntKind.i64 n.1, AV.int IntKind.i64 n.2, AV.str n.3, AV.row Ty.attr n.4, AV.str n.5,
          AV.row Ty.node n.6]])) := by kernel_rfl
theorem vcPutO (k : Nat) (t : ByteArray) (l : List Nd) (m i : Int) (K : Ex → List AV → List Blk → Prop) : (bodyA (cxPut k) (LL Tryz.f18 [lsPutO k, lsPutA]) Tryz.f18.ntmps (loopAt Tryz.f18 0).1 (loopAt Tryz.f18 0).2 (lsPutO k).keep (lsPutO k).left K [.ptr 0 0, .row .node l, .int .i64 m, .int .i64 i] [.bld t]) = (
Br (decide (i < m))
  (Rq ((0 : Int) ≤ i ∧ i < (↑l.length : Int))
    (Rq (t.size + (numS (rd Ty.node l i).1).size ≤ maxSl)
      (Br
        (leafB
          (Nd.mk (rd Ty.node l i).1 (rd Ty.node l i).2 (rd Ty.node l i).3 (rd Ty.node l i).4 (rd Ty.node l i).5
            (rd Ty.node l i).6))
        (Rq ((t ++ numS (rd Ty.node l i).1).size + (txtQ (rd Ty.node l i).5).size ≤ maxSl)
          (K Ex.norm
            [AV.ptr (0 : Nat) (0 : Nat), AV.row Ty.node l, AV.int IntKind.i64 m,
              AV.int IntKind.i64 (IntKind.i64.wrap (i + (1 : Int)))]
            [Blk.bld (t ++ numS (rd Ty.node l i).1 ++ txtQ (rd Ty.node l i).5)]))
        (Rq ((numS (rd Ty.node l i).2).size + (txtQ (rd Ty.node l i).3).size ≤ maxSl)
          (Rq
            ((numS (rd Ty.node l i).2 ++ txtQ (rd Ty.node l i).3).size +
                (numS (↑(rd Ty.node l i).4.length : Int)).size ≤
              maxSl)
            (Rq
              ((t ++ numS (rd Ty.node l i).1).size +
                  (numS (rd Ty.node l i).2 ++ txtQ (rd Ty.node l i).3 ++ numS (↑(rd Ty.node l i).4.length : Int)).size ≤
                maxSl)
              (Gv ((rd Ty.node l i).4.length ≤ maxSl)
                (Gv ((rd Ty.node l i).4.length ≤ maxSl)
                  (Rq
                    ((↑(rd Ty.node l i).4.length : Int) = (↑(rd Ty.node l i).4.length : Int) ∧
                      (0 : Int) = (0 : Int) ∧
                        (rd Ty.node l i).4.length ≤ maxSl ∧
                          (attF
                                (t ++ numS (rd Ty.node l i).1 ++
                                  (numS (rd Ty.node l i).2 ++ txtQ (rd Ty.node l i).3 ++
                                    numS (↑(rd Ty.node l i).4.length : Int)))
                                (rd Ty.node l i).4).size ≤
                            maxSl)
                    (Rq
                      (cntNds (rd Ty.node l i).6 < k ∧
                        (putF
                              (attF
                                (t ++ numS (rd Ty.node l i).1 ++
                                  (numS (rd Ty.node l i).2 ++ txtQ (rd Ty.node l i).3 ++
                                    numS (↑(rd Ty.node l i).4.length : Int)))
                                (rd Ty.node l i).4)
                              (rd Ty.node l i).6).size ≤
                          maxSl)
                      (K Ex.norm
                        [AV.ptr (0 : Nat) (0 : Nat), AV.row Ty.node l, AV.int IntKind.i64 m,
                          AV.int IntKind.i64 (IntKind.i64.wrap (i + (1 : Int)))]
                        [Blk.bld
                            (putF
                              (attF
                                (t ++ numS (rd Ty.node l i).1 ++
                                  (numS (rd Ty.node l i).2 ++ txtQ (rd Ty.node l i).3 ++
                                    numS (↑(rd Ty.node l i).4.length : Int)))
                                (rd Ty.node l i).4)
                              (rd Ty.node l i).6)])))))))))))
  (K (Ex.exit (0 : Nat)) [AV.ptr (0 : Nat) (0 : Nat)] [Blk.bld t])) := by kernel_rfl
theorem vcPutF (k : Nat) (t : ByteArray) (l : List Nd) (Q : List AV → List Blk → List Blk → Prop) : (funA (cxPut k) (LL Tryz.f18 [lsPutO k, lsPutA]) Tryz.f18 [.ptr 0 0, .row .node l] [.bld t] [] Q) = (
Rq (t.size + (numS (↑l.length : Int)).size ≤ maxSl)
  (Gv (l.length ≤ maxSl)
    (Gv (l.length ≤ maxSl)
      (Rq
        ((↑l.length : Int) = (↑l.length : Int) ∧
          (0 : Int) = (0 : Int) ∧
            cntNds l < k + (1 : Nat) ∧ l.length ≤ maxSl ∧ (putG (t ++ numS (↑l.length : Int)) l).size ≤ maxSl)
        (Q [] [Blk.bld (putG (t ++ numS (↑l.length : Int)) l)] []))))) := by kernel_rfl
theorem vcBytsB (l : List Nd) (m i : Int) (K : Ex → List AV → List Blk → Prop) : (bodyA cxByts (LL Tryz.f7 [lsByts]) Tryz.f7.ntmps (loopAt Tryz.f7 0).1 (loopAt Tryz.f7 0).2 lsByts.keep lsByts.left K [.row .node l, .row .node l, .int .i64 m, .int .i64 i] []) = (
Br (decide (i < m))
  (Rq ((0 : Int) ≤ i ∧ i < (↑l.length : Int))
    (Rq
      (cntNd
          (Nd.mk (rd Ty.node l i).1 (rd Ty.node l i).2 (rd Ty.node l i).3 (rd Ty.node l i).4 (rd Ty.node l i).5
            (rd Ty.node l i).6) <
        (1000000 : Nat))
      (Br
        (lonNd
          (Nd.mk (rd Ty.node l i).1 (rd Ty.node l i).2 (rd Ty.node l i).3 (rd Ty.node l i).4 (rd Ty.node l i).5
            (rd Ty.node l i).6))
        (K Ex.ret [AV.row Ty.node l, AV.str (ByteArray.mk (Array.mk [])), AV.int IntKind.i64 (2 : Int)] [])
        (K Ex.norm
          [AV.row Ty.node l, AV.row Ty.node l, AV.int IntKind.i64 m,
            AV.int IntKind.i64 (IntKind.i64.wrap (i + (1 : Int)))]
          []))))
  (K (Ex.exit (0 : Nat)) [AV.row Ty.node l, AV.any, AV.any] [])) := by kernel_rfl
theorem vcBytsF (l : List Nd) (Q : List AV → List Blk → List Blk → Prop) : (funA cxByts (LL Tryz.f7 [lsByts]) Tryz.f7 [.row .node l] [] [] Q) = (
Rq (fineNds l)
  (Br (checkS l != (0 : Int)) (Q [AV.str (ByteArray.mk (Array.mk [])), AV.int IntKind.i64 (checkS l)] [] [])
    (Gv (l.length ≤ maxSl)
      (Rq (l = l ∧ (↑l.length : Int) = (↑l.length : Int) ∧ (0 : Int) = (0 : Int) ∧ cntNds l < (1000000 : Nat))
        (Br (lonNds l) (Q [AV.str (ByteArray.mk (Array.mk [])), AV.int IntKind.i64 (2 : Int)] [] [])
          (Rq ((putF (ByteArray.mk (Array.mk [])) l).size ≤ maxSl)
            (Rq ((putF (ByteArray.mk (Array.mk [])) l).size ≤ maxSl)
              (Q [AV.str (putF (ByteArray.mk (Array.mk [])) l), AV.int IntKind.i64 (0 : Int)] [] [])))))))) := by kernel_rfl
end Go.Proofs.YtpbpabadbipfdaaGreatDoor.AX
end
section
namespace Go.Proofs.YtpbpabadbipfdaaGreatDoor.AXP
open Go Go.Proofs.YtpbpabadbipfdaaGreatDoor.AX
theorem attF_mono : ∀ (a : List At) (t : ByteArray), t.size ≤ (attF t a).size
  | [], t => by rw [attF]; exact Nat.le_refl _
  | x :: l, t => by
    rw [attF]
    have := attF_mono l (t ++ (txtQ x.name ++ txtQ x.value))
    rw [ByteArray.size_append] at this; omega
theorem attF_le : ∀ (a : List At) (t : ByteArray), (∀ x ∈ a, x.name.size ≤ 5000 ∧ x.value.size ≤ 5000) → (attF t a).size ≤ t.size + a.length * 10014
  | [], t, _ => by rw [attF]; omega
  | x :: l, t, h => by
    rw [attF]
    have h0 := h x (.head _)
    have h1 := attF_le l (t ++ (txtQ x.name ++ txtQ x.value)) fun y hy => h y (.tail _ hy)
    have h2 := txtQ_le x.name
    have h3 := txtQ_le x.value
    simp only [ByteArray.size_append] at h1
    rw [List.length_cons]; omega
theorem putN_eq (b : ByteArray) (n : Nd) : putN b n = if leafB n = true then b ++ numS n.kind ++ txtQ n.text else putF (attF (b ++ numS n.kind ++ (numS n.space ++ txtQ n.name ++ numS n.attrs.length)) n.attrs) n.kids := by
  cases n; rw [putN]; rfl
mutual
theorem putN_mono : ∀ (n : Nd) (b : ByteArray), b.size ≤ (putN b n).size
  | ⟨k, s, m, a, t, c⟩, b => by
    rw [putN]
    split
    · simp only [ByteArray.size_append]; omega
    · refine Nat.le_trans ?_ (putG_mono c _)
      have := attF_mono a (b ++ numS k ++ (numS s ++ txtQ m ++ numS a.length))
      simp only [ByteArray.size_append] at this ⊢; omega
theorem putG_mono : ∀ (l : List Nd) (b : ByteArray), b.size ≤ (putG b l).size
  | [], b => by rw [putG]; exact Nat.le_refl _
  | n :: l, b => by rw [putG]; exact Nat.le_trans (putN_mono n b) (putG_mono l _)
end
mutual
theorem putN_le : ∀ (n : Nd) (b : ByteArray), bndNd n → (putN b n).size ≤ b.size + cntNd n * 31000000
  | ⟨k, s, m, a, t, c⟩, b, h => by
    rw [bndNd] at h
    obtain ⟨⟨h1, h2, h3, h4⟩, h5⟩ := h
    have q1 := numS_le k
    have q2 := numS_le s
    have q3 := numS_le (a.length : Int)
    have q4 := numS_le (c.length : Int)
    have q5 := txtQ_le t
    have q6 := txtQ_le m
    rw [putN, cntNd]
    split
    · simp only [ByteArray.size_append]; omega
    · have g1 := putG_le c (attF (b ++ numS k ++ (numS s ++ txtQ m ++ numS a.length)) a ++ numS c.length) h5
      have g2 := attF_le a (b ++ numS k ++ (numS s ++ txtQ m ++ numS a.length)) h4
      simp only [ByteArray.size_append] at g1 g2; omega
theorem putG_le : ∀ (l : List Nd) (b : ByteArray), bndNds l → (putG b l).size ≤ b.size + cntNds l * 31000000
  | [], b, _ => by rw [putG]; omega
  | n :: l, b, h => by
    rw [bndNds] at h
    rw [putG, cntNds]
    have h1 := putN_le n b h.1
    have h2 := putG_le l (putN b n) h.2
    omega
end
theorem fine_put {l : List Nd} (h : fineNds l) : (putF ⟨#[]⟩ l).size ≤ maxSl := by
  have h1 := putG_le l ((⟨#[]⟩ : ByteArray) ++ numS l.length) h.2
  have h2 := numS_le (l.length : Int)
  have h3 := h.1
  have h0 : (ByteArray.mk #[]).size = 0 := rfl
  have hmx : maxSl = 140737488355328 := rfl
  unfold putF
  rw [ByteArray.size_append] at h1; omega
theorem cnt_memN {l : List Nd} {n : Nd} (h : n ∈ l) : cntNd n ≤ cntNds l := by
  obtain ⟨i, hi, rfl⟩ := List.getElem_of_mem h
  exact cnt_mem hi
end Go.Proofs.YtpbpabadbipfdaaGreatDoor.AXP
namespace Go.Proofs.YtpbpabadbipfdaaGreatDoor.AX
open Go AXP
set_option maxRecDepth 100000
theorem putA_sum (k : Nat) : SumOK (cxPut k) (LL Tryz.f18 [lsPutO k, lsPutA]) Tryz.f18.ntmps (loopAt Tryz.f18 1).1 (loopAt Tryz.f18 1).2 lsPutA := by
  intro vs bs K hs
  unfold lsPutA at hs
  simp only at hs
  split at hs
  case h_2 => exact hs.elim
  rename_i l m j a q i t c0 c1 c2 c3 c4 c5
  rcases (show ∃ w : List At, w = a from ⟨_, rfl⟩) with ⟨a, rfl⟩
  obtain ⟨⟨rfl, rfl, hl, hsz⟩, h⟩ := hs
  refine sum_rec (σ := Nat × ByteArray) (fun s => [.ptr 0 0, .ptr 1 0, .row .node l, .int .i64 m, .int .i64 j, .row .attr a, .int .i64 a.length, .int .i64 (s.1 : Nat)]) (fun s => [.bld s.2, .box (nodeL ⟨c0, c1, c2, c3, c4, c5⟩)]) (fun s => s.1 ≤ a.length ∧ attF s.2 (a.drop s.1) = attF t a) (fun s => a.length - s.1) ?_ (0, t) ⟨Nat.zero_le _, rfl⟩
  rintro ⟨i, b⟩ ⟨hi, he⟩ R hR
  dsimp only at hi he hR ⊢
  refine Eq.mpr (vcPutA k ⟨c0, c1, c2, c3, c4, c5⟩ b l a m j a.length i _) ⟨fun h1 => ?_, fun h1 => ?_⟩
  · have hlt : i < a.length := by have := of_decide_eq_true h1; omega
    rw [rd_atA hlt]
    rw [List.drop_eq_getElem_cons hlt, attF] at he
    have hm := attF_mono (a.drop (i + 1)) (b ++ (txtQ a[i].name ++ txtQ a[i].value))
    rw [he] at hm
    have hm' := hm
    simp only [ByteArray.size_append] at hm'
    change b.size + ((txtQ a[i].1).size + (txtQ a[i].2).size) ≤ _ at hm'
    refine Rq.mk ⟨by omega, by omega⟩ (Rq.mk (by omega) (Rq.mk (by rw [ByteArray.size_append]; omega) ?_))
    rw [wrap_succ hlt hl]
    exact hR (i + 1, b ++ (txtQ a[i].name ++ txtQ a[i].value)) ⟨hlt, he⟩ (by dsimp only; omega)
  · have hge : a.length ≤ i := by have := of_decide_eq_false h1; omega
    rw [List.drop_of_length_le hge, attF] at he
    rw [he]
    exact h
theorem putO_sum (k : Nat) : SumOK (cxPut k) (LL Tryz.f18 [lsPutO k, lsPutA]) Tryz.f18.ntmps (loopAt Tryz.f18 0).1 (loopAt Tryz.f18 0).2 (lsPutO k) := by
  intro vs bs K hs
  unfold lsPutO at hs
  simp only at hs
  split at hs
  case h_2 => exact hs.elim
  rename_i l m i t
  rcases (show ∃ w : List Nd, w = l from ⟨_, rfl⟩) with ⟨l, rfl⟩
  obtain ⟨⟨rfl, rfl, hk, hl, hsz⟩, h⟩ := hs
  refine sum_rec (σ := Nat × ByteArray) (fun s => [.ptr 0 0, .row .node l, .int .i64 l.length, .int .i64 (s.1 : Nat)]) (fun s => [.bld s.2]) (fun s => s.1 ≤ l.length ∧ putG s.2 (l.drop s.1) = putG t l) (fun s => l.length - s.1) ?_ (0, t) ⟨Nat.zero_le _, rfl⟩
  rintro ⟨i, b⟩ ⟨hi, he⟩ R hR
  dsimp only at hi he hR ⊢
  refine Eq.mpr (vcPutO k b l l.length i _) ⟨fun h1 => ?_, fun h1 => ?_⟩
  · have hlt : i < l.length := by have := of_decide_eq_true h1; omega
    rw [rd_nd hlt]
    simp only [nd_eta]
    rw [List.drop_eq_getElem_cons hlt, putG] at he
    have hm := putG_mono (l.drop (i + 1)) (putN b l[i])
    rw [he] at hm
    have hm := Nat.le_trans hm hsz
    have hgo := hR (i + 1, putN b l[i]) ⟨hlt, he⟩ (by dsimp only; omega)
    dsimp only at hgo
    have hN := putN_eq b l[i]
    have hc := cnt_mem hlt
    rw [cntNd_eq] at hc
    generalize l[i] = n at hm hN hgo hc ⊢
    rw [wrap_succ hlt hl]
    refine Rq.mk ⟨by omega, by omega⟩ (Rq.mk ?_ ⟨fun h2 => Rq.mk ?_ ?_, fun h2 => ?_⟩)
    · rw [hN] at hm
      split at hm
      · simp only [ByteArray.size_append] at hm; show b.size + (numS n.kind).size ≤ _; omega
      · have g1 := putG_mono n.kids (attF (b ++ numS n.kind ++ (numS n.space ++ txtQ n.name ++ numS n.attrs.length)) n.attrs ++ numS n.kids.length)
        have g2 := attF_mono n.attrs (b ++ numS n.kind ++ (numS n.space ++ txtQ n.name ++ numS n.attrs.length))
        have g3 := Nat.le_trans g1 hm
        simp only [ByteArray.size_append] at g2 g3
        show b.size + (numS n.kind).size ≤ _
        omega
    · rw [hN, if_pos h2] at hm
      rw [← ByteArray.size_append]; exact hm
    · rw [hN, if_pos h2] at hgo
      exact hgo
    · rw [if_neg (by rw [h2]; decide)] at hN
      rw [hN] at hm hgo
      have g1 := putG_mono n.kids (attF (b ++ numS n.kind ++ (numS n.space ++ txtQ n.name ++ numS n.attrs.length)) n.attrs ++ numS n.kids.length)
      have g2 := attF_mono n.attrs (b ++ numS n.kind ++ (numS n.space ++ txtQ n.name ++ numS n.attrs.length))
      have g3 := Nat.le_trans g1 hm
      rw [ByteArray.size_append] at g3
      have g4 : (attF (b ++ numS n.kind ++ (numS n.space ++ txtQ n.name ++ numS n.attrs.length)) n.attrs).size ≤ maxSl := by omega
      have g5 := Nat.le_trans g2 g4
      have g6 : b.size + (numS n.1).size + ((numS n.2).size + (txtQ n.3).size + (numS (n.4.length : Int)).size) ≤ maxSl := by
        simp only [ByteArray.size_append] at g5
        exact g5
      refine Rq.mk (by omega) (Rq.mk (by rw [ByteArray.size_append]; omega) (Rq.mk ?_ ⟨fun _ => ⟨fun ha => Rq.mk ⟨trivial, trivial, ha, g4⟩ (Rq.mk ⟨by omega, hm⟩ hgo)⟩⟩))
      simp only [ByteArray.size_append]; omega
  · have hge : l.length ≤ i := by have := of_decide_eq_false h1; omega
    rw [List.drop_of_length_le hge, putG] at he
    rw [he]
    exact h
theorem put_lt : ∀ k, Holds 18 (conPutLt k)
  | 0 => by
    intro args hp ans hc
    unfold conPutLt at hc
    split at hc
    case h_2 => cases hc
    simp only [Option.bind_eq_some_iff] at hc
    obtain ⟨a, hx, hc⟩ := hc
    injection hc with hc
    subst hc
    intro F I w vals hH hv hpre
    exact absurd (hpre _ rfl).1 (Nat.not_lt_zero _)
  | k + 1 => by
    intro args hp ans hc
    unfold conPutLt at hc
    split at hc
    case h_2 => cases hc
    rename_i x t
    simp only [Option.bind_eq_some_iff] at hc
    obtain ⟨l, hx, hc⟩ := hc
    injection hc with hc
    subst hc
    rcases (show ∃ w : List Nd, w = l from ⟨_, rfl⟩) with ⟨l, rfl⟩
    refine Meets.weaken (args' := [.ptr 0 0, .row .node l]) (.cons (.refl _) (.cons (rowOf_le hx) .nil)) ?_
    refine fun_meets2 (AllH.tok (.cons tn_holds (by kernel_rfl) (.cons tt_holds (by kernel_rfl) (.cons leaf_holds (by kernel_rfl) (.cons write_holds (by kernel_rfl) (.cons (put_lt k) (by kernel_rfl) .nil)))))) [] (lsPutO k) lsPutA (by kernel_rfl) (by kernel_rfl) (putO_sum k) (putA_sum k) fun hpre => Eq.mpr (vcPutF k t l _) ?_
    obtain ⟨h1, h2⟩ : cntNds l < k + 1 ∧ (putF t l).size ≤ maxSl := hpre _ rfl
    have h3 := Nat.le_trans (putG_mono l (t ++ numS l.length)) h2
    rw [ByteArray.size_append] at h3
    exact Rq.mk h3 ⟨fun _ => ⟨fun hl => Rq.mk ⟨rfl, rfl, h1, hl, h2⟩ (qfin rfl rfl rfl rfl)⟩⟩
theorem put_holds : Holds 18 conPut := by
  intro args hp ans hc
  unfold conPut at hc
  split at hc
  case h_2 => cases hc
  rename_i x t
  simp only [Option.bind_eq_some_iff] at hc
  obtain ⟨l, hx, hc⟩ := hc
  injection hc with hc
  subst hc
  rcases (show ∃ w : List Nd, w = l from ⟨_, rfl⟩) with ⟨l, rfl⟩
  have := put_lt (cntNds l + 1) [.ptr 0 0, x] [.bld t] { pre := some (cntNds l < cntNds l + 1 ∧ (putF t l).size ≤ maxSl), res := .tup [], hp := [.bld (putF t l)] } (by unfold conPutLt; simp only [hx, Option.bind_some])
  exact fun F I w vals hH hv hpre => this F I w vals hH hv (fun p hp => by injection hp with hp; subst hp; exact ⟨Nat.lt_succ_self _, hpre _ rfl⟩)
theorem byts_sum : SumOK cxByts (LL Tryz.f7 [lsByts]) Tryz.f7.ntmps (loopAt Tryz.f7 0).1 (loopAt Tryz.f7 0).2 lsByts := by
  intro vs bs K hs
  unfold lsByts at hs
  simp only at hs
  split at hs
  case h_2 => exact hs.elim
  rename_i l l' m i
  rcases (show ∃ w : List Nd, w = l from ⟨_, rfl⟩) with ⟨l, rfl⟩
  obtain ⟨⟨el, rfl, rfl, hc⟩, h⟩ := hs
  have el : l = l' := el.symm
  subst el
  have hlen := cnt_len l
  have hm : l.length ≤ maxSl := by unfold maxSl; omega
  refine sum_rec (σ := Nat) (fun i => [.row .node l, .row .node l, .int .i64 l.length, .int .i64 (i : Nat)]) (fun _ => []) (fun i => i ≤ l.length ∧ lonNds (l.drop i) = lonNds l) (fun i => l.length - i) ?_ 0 ⟨Nat.zero_le _, rfl⟩
  rintro i ⟨hi, he⟩ R hR
  refine Eq.mpr (vcBytsB l l.length i _) ⟨fun h1 => ?_, fun h1 => ?_⟩
  · have hlt : i < l.length := by have := of_decide_eq_true h1; omega
    rw [rd_nd hlt]
    simp only [nd_eta]
    rw [List.drop_eq_getElem_cons hlt, lonNds] at he
    have := cnt_mem hlt
    refine Rq.mk ⟨by omega, by omega⟩ (Rq.mk (by omega) ⟨fun h2 => h.yes ?_, fun h2 => ?_⟩)
    · rw [h2, Bool.true_or] at he; exact he.symm
    · rw [h2, Bool.false_or] at he
      rw [wrap_succ hlt hm]
      exact hR (i + 1) ⟨hlt, he⟩ (by omega)
  · have hge : l.length ≤ i := by have := of_decide_eq_false h1; omega
    rw [List.drop_of_length_le hge] at he
    exact h.no he.symm
theorem byts_holds : Holds 7 conByts := conP_holds fun l => by
  rcases (show ∃ w : List Nd, w = l from ⟨_, rfl⟩) with ⟨l, rfl⟩
  refine fun_meets1 (AllH.tok (.cons chk_holds (by kernel_rfl) (.cons too_holds (by kernel_rfl) (.cons put_holds (by kernel_rfl) (.cons string_holds (by kernel_rfl) .nil))))) [] lsByts (by kernel_rfl) (by kernel_rfl) byts_sum fun hpre => Eq.mpr (vcBytsF l _) ?_
  have hf : fineNds l := hpre _ rfl
  have hs := fine_put hf
  have e : ∀ s b, bytS l = s → bytE l = b → [AV.str s, AV.int .i64 b] = compsOf (.tup [.str (bytS l), .int .i64 (bytE l)]) := fun s b h1 h2 => by rw [h1, h2]; rfl
  refine Rq.mk hf ⟨fun h1 => qfin rfl (e _ _ ?_ ?_) rfl rfl, fun h1 => ⟨fun _ => Rq.mk ⟨rfl, rfl, rfl, hf.1⟩ ⟨fun h2 => qfin rfl (e _ _ ?_ ?_) rfl rfl, fun h2 => Rq.mk hs (Rq.mk hs (qfin rfl (e _ _ ?_ ?_) rfl rfl))⟩⟩⟩
  · have h1 : ¬ checkS l = 0 := by simpa using h1
    have hb : bytE l = checkS l := by unfold bytE; rw [if_neg h1]
    unfold bytS; rw [hb, if_neg h1]
  · have h1 : ¬ checkS l = 0 := by simpa using h1
    unfold bytE; rw [if_neg h1]
  · have h1 : checkS l = 0 := by simpa using h1
    have hb : bytE l = 2 := by unfold bytE; rw [if_pos h1, if_pos h2]
    unfold bytS; rw [hb, if_neg (by decide)]
  · have h1 : checkS l = 0 := by simpa using h1
    unfold bytE; rw [if_pos h1, if_pos h2]
  · have h1 : checkS l = 0 := by simpa using h1
    have hb : bytE l = 0 := by unfold bytE; rw [if_pos h1, if_neg (by rw [h2]; decide)]
    unfold bytS; rw [if_pos hb]
  · have h1 : checkS l = 0 := by simpa using h1
    unfold bytE; rw [if_pos h1, if_neg (by rw [h2]; decide)]
end Go.Proofs.YtpbpabadbipfdaaGreatDoor.AX
end
section
namespace Go.Proofs.YtpbpabadbipfdaaGreatDoor.AXP
open Go Go.Proofs.YtpbpabadbipfdaaGreatDoor.AX
/-- Bytes that are left, how many nodes may still come, whether they were no nodes' bytes. -/
structure RS where
  b : ByteArray
  room : Int
  bad : Bool
def rNum (most : Int) (s : RS) : Int × RS :=
  match takeN (kb s.b) with
  | some (n, r) => if (n : Int) > most then (0, ⟨s.b, s.room, true⟩) else (n, ⟨bk r, s.room, s.bad⟩)
  | none => (0, ⟨s.b, s.room, true⟩)
def rTxt (s : RS) : ByteArray × RS :=
  match takeT (kb s.b) with
  | some (t, r) => (bk t, ⟨bk r, s.room, s.bad⟩)
  | none => (bk [], ⟨s.b, s.room, true⟩)
def rAtts : Nat → RS → List At × RS
  | 0, s => ([], s)
  | c + 1, s => if s.bad = true then ([], s) else (⟨(rTxt s).1, (rTxt (rTxt s).2).1⟩ :: (rAtts c (rTxt (rTxt s).2).2).1, (rAtts c (rTxt (rTxt s).2).2).2)
/-- A node; the first argument reads its kids. -/
def rNode (rk : RS → List Nd × RS) (s : RS) : Nd × RS :=
  if ((rNum 3 s).1 == 2 || (rNum 3 s).1 == 3) = true then (⟨(rNum 3 s).1, 0, bk [], [], (rTxt (rNum 3 s).2).1, []⟩, (rTxt (rNum 3 s).2).2)
  else
    let s2 := (rNum 2 (rNum 3 s).2).2
    let s4 := (rNum 12 (rTxt s2).2).2
    let s5 := (rAtts (rNum 12 (rTxt s2).2).1.toNat s4).2
    (⟨(rNum 3 s).1, (rNum 2 (rNum 3 s).2).1, (rTxt s2).1, (rAtts (rNum 12 (rTxt s2).2).1.toNat s4).1, bk [], (rk s5).1⟩, (rk s5).2)
def rMany (f : RS → Nd × RS) : Nat → RS → List Nd × RS
  | 0, s => ([], s)
  | c + 1, s => if s.bad = true then ([], s) else ((f s).1 :: (rMany f c (f s).2).1, (rMany f c (f s).2).2)
/-- What stands behind the number of nodes. -/
def rHead (d : Int) (s : RS) : RS := ⟨(rNum s.room s).2.b, s.room - (rNum s.room s).1, (rNum s.room s).2.bad || decide (d > 41)⟩
/-- Nodes at a depth; the first argument: more than how much deeper they can lie. -/
def rNds : Nat → Int → RS → List Nd × RS
  | 0, _, s => ([], s)
  | k + 1, d, s => rMany (rNode (rNds k (d + 1))) (rNum s.room s).1.toNat (rHead d s)
theorem rNum_room (m : Int) (s : RS) : (rNum m s).2.room = s.room := by
  unfold rNum; split
  · split <;> rfl
  · rfl
theorem rTxt_room (s : RS) : (rTxt s).2.room = s.room := by unfold rTxt; split <;> rfl
theorem rAtts_room : ∀ (c : Nat) (s : RS), (rAtts c s).2.room = s.room
  | 0, _ => rfl
  | c + 1, s => by
    rw [rAtts]; split
    · rfl
    · show (rAtts c _).2.room = _
      rw [rAtts_room c, rTxt_room, rTxt_room]
theorem rNum_bad {m : Int} {s : RS} (h : (rNum m s).2.bad = false) : s.bad = false ∧ ∃ n r, takeN (kb s.b) = some (n, r) ∧ (n : Int) ≤ m ∧ rNum m s = ((n : Int), ⟨bk r, s.room, false⟩) := by
  unfold rNum at h ⊢
  split at h
  · rename_i n r hn
    rw [hn]
    split at h
    · cases h
    · rename_i hc
      have h : s.bad = false := h
      rw [if_neg hc, h]
      exact ⟨rfl, n, r, rfl, by omega, rfl⟩
  · cases h
theorem rNum_ok {m : Int} {s : RS} {n : Nat} {r : List UInt8} (h : takeN (kb s.b) = some (n, r)) (hm : (n : Int) ≤ m) : rNum m s = ((n : Int), ⟨bk r, s.room, s.bad⟩) := by
  unfold rNum; rw [h]; simp only; rw [if_neg (by omega)]
theorem rTxt_bad {s : RS} (h : (rTxt s).2.bad = false) : s.bad = false ∧ ∃ t r, takeT (kb s.b) = some (t, r) ∧ rTxt s = (bk t, ⟨bk r, s.room, false⟩) := by
  unfold rTxt at h ⊢
  split at h
  · rename_i t r hn
    rw [hn]
    have h : s.bad = false := h
    simp only [h]
    exact ⟨trivial, t, r, rfl, rfl⟩
  · cases h
theorem rTxt_ok {s : RS} {t r : List UInt8} (h : takeT (kb s.b) = some (t, r)) : rTxt s = (bk t, ⟨bk r, s.room, s.bad⟩) := by unfold rTxt; rw [h]
theorem rAtts_bad : ∀ {c : Nat} {s : RS}, (rAtts c s).2.bad = false → s.bad = false ∧ ∃ r, pAtts c (kb s.b) = some ((rAtts c s).1, r) ∧ (rAtts c s).2 = ⟨bk r, s.room, false⟩
  | 0, s, h => by
    have h : s.bad = false := h
    refine ⟨h, kb s.b, rfl, ?_⟩
    show s = _
    rw [bk_kb, ← h]
  | c + 1, s, h => by
    rw [rAtts] at h ⊢
    cases hb : s.bad with
    | true => rw [hb, if_pos rfl] at h; rw [hb] at h; cases h
    | false =>
      rw [hb, if_neg (by decide)] at h
      rw [if_neg (by decide)]
      obtain ⟨h1, r1, h2, h3⟩ := rAtts_bad (show (rAtts c (rTxt (rTxt s).2).2).2.bad = false from h)
      obtain ⟨h4, y, r2, h5, h6⟩ := rTxt_bad h1
      obtain ⟨_, x, r3, h7, h8⟩ := rTxt_bad h4
      rw [h8] at h5 h6
      simp only [kb_bk] at h5
      rw [h8] at h2 h3 ⊢
      rw [h6] at h2 h3 ⊢
      simp only [kb_bk] at h2
      refine ⟨rfl, r1, ?_, h3⟩
      rw [pAtts, h7]
      simp only
      rw [h5]
      simp only
      rw [h2]
theorem rAtts_ok : ∀ {c : Nat} {s : RS} {l : List At} {r : List UInt8}, s.bad = false → pAtts c (kb s.b) = some (l, r) → rAtts c s = (l, ⟨bk r, s.room, false⟩)
  | 0, s, l, r, hb, h => by
    rw [pAtts] at h
    injection h with h
    injection h with e1 e2
    subst e1; subst e2
    rw [rAtts, bk_kb, ← hb]
  | c + 1, s, l, r, hb, h => by
    rw [pAtts] at h
    split at h
    · cases h
    rename_i x r1 h1
    split at h
    · cases h
    rename_i y r2 h2
    split at h
    · cases h
    rename_i l' z h3
    injection h with h
    injection h with e1 e2
    subst e1; subst e2
    rw [rAtts, if_neg (by rw [hb]; decide), rTxt_ok h1]
    simp only
    rw [rTxt_ok (s := ⟨bk r1, s.room, s.bad⟩) (by rw [kb_bk]; exact h2)]
    simp only
    rw [rAtts_ok (s := ⟨bk r2, s.room, s.bad⟩) hb (by rw [kb_bk]; exact h3)]
/-- What a reading says, where it is not bad. -/
def RGood (s : RS) (p : Option (List Nd × List UInt8)) (q : List Nd × RS) : Prop := q.2.bad = false → ∃ r, p = some (q.1, r) ∧ q.2 = ⟨bk r, s.room - cntNds q.1, false⟩
theorem rNode_bad {pk : List UInt8 → Option (List Nd × List UInt8)} {rk : RS → List Nd × RS} (hs : ∀ s, (rk s).2.bad = false → s.bad = false) (hk : ∀ s, s.bad = false → s.room ≤ 300 → RGood s (pk (kb s.b)) (rk s)) {s : RS} (hr : s.room ≤ 300) (h : (rNode rk s).2.bad = false) :
    s.bad = false ∧ ∃ r, pNd pk (kb s.b) = some ((rNode rk s).1, r) ∧ (rNode rk s).2 = ⟨bk r, s.room - ((cntNd (rNode rk s).1 : Nat) - 1 : Int), false⟩ := by
  unfold rNode at h ⊢
  split at h
  · rename_i hl
    rw [if_pos hl]
    obtain ⟨h1, t, r, h2, h3⟩ := rTxt_bad h
    obtain ⟨h4, n, r1, h5, h6, h7⟩ := rNum_bad h1
    rw [h7] at h2 h3 hl ⊢
    simp only [kb_bk] at h2
    rw [h3]
    refine ⟨h4, r, ?_, ?_⟩
    · unfold pNd
      rw [h5]
      simp only
      rw [if_neg (by omega), if_pos (by simp only [Bool.or_eq_true, beq_iff_eq] at hl; omega), h2]
    · show (⟨bk r, s.room, false⟩ : RS) = _
      congr 1
      simp [cntNd, cntNds]
  · rename_i hl
    rw [if_neg hl]
    dsimp only at h ⊢
    have b5 := hs _ h
    obtain ⟨b4, r4, h41, h42⟩ := rAtts_bad b5
    obtain ⟨b3, c, r3, h31, h32, h33⟩ := rNum_bad b4
    obtain ⟨b2, m, r2, h21, h22⟩ := rTxt_bad b3
    obtain ⟨b1, sp, r1, h11, h12, h13⟩ := rNum_bad b2
    obtain ⟨b0, k, r0, h01, h02, h03⟩ := rNum_bad b1
    rw [h03] at h11 h13 hl ⊢
    simp only [kb_bk] at h11
    rw [h03] at h21 h22 h31 h33 h41 h42 h
    rw [h13] at h21 h22 h31 h33 h41 h42 h ⊢
    simp only [kb_bk] at h21
    rw [h22] at h31 h33 h41 h42 h ⊢
    simp only [kb_bk] at h31
    rw [h33] at h41 h42 h ⊢
    simp only [kb_bk, Int.toNat_natCast] at h41 h42 h ⊢
    rw [h42] at h ⊢
    obtain ⟨z, h51, h52⟩ := hk ⟨bk r4, s.room, false⟩ rfl hr h
    rw [kb_bk] at h51
    refine ⟨b0, z, ?_, ?_⟩
    · unfold pNd
      rw [h01]
      simp only
      rw [if_neg (by omega), if_neg (by simp only [Bool.or_eq_true, beq_iff_eq] at hl; omega), h11]
      simp only
      rw [h21]
      simp only
      rw [h31]
      simp only
      rw [if_neg (by omega), h41]
      simp only
      rw [h51]
    · rw [h52]
      congr 1
      rw [cntNd]
      show s.room - (cntNds _ : Int) = s.room - (((1 + cntNds _ : Nat) : Int) - 1)
      omega
theorem rMany_sticky {f : RS → Nd × RS} (hf : ∀ s, (f s).2.bad = false → s.bad = false) : ∀ {c : Nat} {s : RS}, (rMany f c s).2.bad = false → s.bad = false
  | 0, _, h => h
  | c + 1, s, h => by
    rw [rMany] at h
    cases hb : s.bad with
    | true => rw [if_pos hb] at h; rw [hb] at h; cases h
    | false => rfl
theorem rNode_sticky {rk : RS → List Nd × RS} (hs : ∀ s, (rk s).2.bad = false → s.bad = false) {s : RS} (h : (rNode rk s).2.bad = false) : s.bad = false := by
  unfold rNode at h
  split at h
  · exact (rNum_bad (rTxt_bad h).1).1
  · exact (rNum_bad (rNum_bad (rTxt_bad (rNum_bad (rAtts_bad (hs _ h)).1).1).1).1).1
theorem rMany_bad {f : RS → Nd × RS} {p : List UInt8 → Option (Nd × List UInt8)} (hs : ∀ s, (f s).2.bad = false → s.bad = false)
    (hf : ∀ s, s.room ≤ 300 → (f s).2.bad = false → ∃ r, p (kb s.b) = some ((f s).1, r) ∧ (f s).2 = ⟨bk r, s.room - ((cntNd (f s).1 : Nat) - 1 : Int), false⟩) : ∀ {c : Nat} {s : RS}, s.room ≤ 300 → (rMany f c s).2.bad = false →
    ∃ r, pMany p c (kb s.b) = some ((rMany f c s).1, r) ∧ (rMany f c s).2 = ⟨bk r, s.room - ((cntNds (rMany f c s).1 : Nat) - (c : Nat) : Int), false⟩
  | 0, s, hr, h => by
    have h : s.bad = false := h
    refine ⟨kb s.b, rfl, ?_⟩
    show s = _
    rw [bk_kb, ← h]
    show s = ⟨s.b, s.room - (((cntNds [] : Nat) : Int) - ((0 : Nat) : Int)), s.bad⟩
    rw [cntNds]
    show s = ⟨s.b, s.room - (0 - 0), s.bad⟩
    rw [Int.sub_zero, Int.sub_zero]
  | c + 1, s, hr, h => by
    rw [rMany] at h ⊢
    cases hb : s.bad with
    | true => rw [hb, if_pos rfl] at h; rw [hb] at h; cases h
    | false =>
      rw [hb, if_neg (by decide)] at h
      rw [if_neg (by decide)]
      have h : (rMany f c (f s).2).2.bad = false := h
      obtain ⟨r, h1, h2⟩ := hf s hr (rMany_sticky hs h)
      have hcn : 1 ≤ cntNd (f s).1 := by rw [AX.cntNd_eq]; omega
      rw [h2] at h ⊢
      obtain ⟨z, h3, h4⟩ := rMany_bad hs hf (s := ⟨bk r, s.room - ((cntNd (f s).1 : Nat) - 1 : Int), false⟩) (by dsimp only; omega) h
      rw [kb_bk] at h3
      refine ⟨z, ?_, ?_⟩
      · rw [pMany, h1]
        simp only
        rw [h3]
      · rw [h4]
        congr 1
        rw [cntNds]
        dsimp only
        omega
theorem rNds_sticky : ∀ (k : Nat) (d : Int) (s : RS), (rNds k d s).2.bad = false → s.bad = false
  | 0, _, _, h => h
  | k + 1, d, s, h => by
    rw [rNds] at h
    have h1 := rMany_sticky (fun s hs => rNode_sticky (rNds_sticky k (d + 1)) hs) h
    unfold rHead at h1
    simp only [Bool.or_eq_false_iff] at h1
    exact (rNum_bad h1.1).1
/-- What the program reads can be read. -/
theorem rNds_bad : ∀ (k : Nat) (d : Int) (s : RS), (43 - d).toNat < k → s.room ≤ 300 → RGood s (pNds (42 - d).toNat (kb s.b)) (rNds k d s)
  | 0, _, _, hk, _ => absurd hk (Nat.not_lt_zero _)
  | k + 1, d, s, hk, hr => by
    intro h
    rw [rNds] at h ⊢
    have hs := fun (s : RS) (hs : (rNode (rNds k (d + 1)) s).2.bad = false) => rNode_sticky (rNds_sticky k (d + 1)) hs
    have h1 := rMany_sticky hs h
    unfold rHead at h1
    simp only [Bool.or_eq_false_iff, decide_eq_false_iff_not] at h1
    obtain ⟨h1, hd⟩ := h1
    obtain ⟨_, n, r, h2, h3, h4⟩ := rNum_bad h1
    have eh : rHead d s = ⟨bk r, s.room - n, false⟩ := by
      unfold rHead
      rw [h4]
      simp only [decide_eq_false hd, Bool.or_false]
    rw [eh, h4] at h ⊢
    simp only [Int.toNat_natCast] at h ⊢
    have e1 : (42 - d).toNat = (42 - (d + 1)).toNat + 1 := by omega
    obtain ⟨z, h5, h6⟩ := rMany_bad (p := pNd (pNds (42 - (d + 1)).toNat)) hs (fun s hr hb => (rNode_bad (rNds_sticky k (d + 1)) (fun s _ hr => rNds_bad k (d + 1) s (by omega) hr) hr hb).2) (s := ⟨bk r, s.room - n, false⟩) (by dsimp only; omega) h
    rw [kb_bk] at h5
    refine ⟨z, ?_, ?_⟩
    · rw [e1, pNds, h2]
      simp only
      rw [if_neg (by omega), h5]
    · rw [h6]
      congr 1
      dsimp only
      omega
theorem rNode_ok {pk : List UInt8 → Option (List Nd × List UInt8)} {rk : RS → List Nd × RS} (hk : ∀ s l r, s.bad = false → pk (kb s.b) = some (l, r) → (cntNds l : Int) ≤ s.room → rk s = (l, ⟨bk r, s.room - cntNds l, false⟩)) {s : RS} {n : Nd} {r : List UInt8} (hb : s.bad = false)
    (h : pNd pk (kb s.b) = some (n, r)) (hr : (cntNd n : Int) - 1 ≤ s.room) : rNode rk s = (n, ⟨bk r, s.room - ((cntNd n : Nat) - 1 : Int), false⟩) := by
  unfold pNd at h
  split at h
  · cases h
  rename_i k r0 h0
  split at h
  · cases h
  rename_i hk3
  have e0 := rNum_ok (m := 3) h0 (by omega)
  rw [hb] at e0
  unfold rNode
  rw [e0]
  simp only
  split at h
  · rename_i hk
    split at h
    · cases h
    rename_i t z h1
    injection h with h
    injection h with e1 e2
    subst e1; subst e2
    rw [if_pos (by simp only [Bool.or_eq_true, beq_iff_eq]; omega), rTxt_ok (s := ⟨bk r0, s.room, false⟩) (by rw [kb_bk]; exact h1)]
    simp [cntNd, cntNds]
  · rename_i hkk
    split at h
    · cases h
    rename_i sp r1 h1
    split at h
    · cases h
    rename_i m r2 h2
    split at h
    · cases h
    rename_i c r3 h3
    split at h
    · cases h
    rename_i hsc
    split at h
    · cases h
    rename_i a r4 h4
    split at h
    · cases h
    rename_i l z h5
    injection h with h
    injection h with e1 e2
    subst e1; subst e2
    rw [cntNd] at hr
    have x1 := rNum_ok (m := 2) (s := ⟨bk r0, s.room, false⟩) (by rw [kb_bk]; exact h1) (by omega)
    have x2 := rTxt_ok (s := ⟨bk r1, s.room, false⟩) (by rw [kb_bk]; exact h2)
    have x3 := rNum_ok (m := 12) (s := ⟨bk r2, s.room, false⟩) (by rw [kb_bk]; exact h3) (by omega)
    have x4 := rAtts_ok (s := ⟨bk r3, s.room, false⟩) rfl (by rw [kb_bk]; exact h4)
    have x5 := hk ⟨bk r4, s.room, false⟩ l z rfl (by rw [kb_bk]; exact h5) (by dsimp only; omega)
    rw [if_neg (by simp only [Bool.or_eq_true, beq_iff_eq]; omega), x1]
    simp only
    rw [x2]
    simp only
    rw [x3]
    simp only [Int.toNat_natCast]
    rw [x4]
    simp only
    rw [x5]
    simp only
    congr 2
    rw [cntNd]
    omega
theorem rMany_ok {f : RS → Nd × RS} {p : List UInt8 → Option (Nd × List UInt8)} (hf : ∀ s n r, s.bad = false → p (kb s.b) = some (n, r) → (cntNd n : Int) - 1 ≤ s.room → f s = (n, ⟨bk r, s.room - ((cntNd n : Nat) - 1 : Int), false⟩)) : ∀ {c : Nat} {s : RS} {l : List Nd} {r : List UInt8}, s.bad = false →
    pMany p c (kb s.b) = some (l, r) → (cntNds l : Int) - c ≤ s.room → rMany f c s = (l, ⟨bk r, s.room - ((cntNds l : Nat) - (c : Nat) : Int), false⟩)
  | 0, s, l, r, hb, h, hr => by
    rw [pMany] at h
    injection h with h
    injection h with e1 e2
    subst e1; subst e2
    rw [rMany, bk_kb, cntNds]
    show ([], s) = ([], (⟨s.b, s.room - (0 - 0), false⟩ : RS))
    rw [Int.sub_zero, Int.sub_zero, ← hb]
  | c + 1, s, l, r, hb, h, hr => by
    rw [pMany] at h
    split at h
    · cases h
    rename_i x r1 h1
    split at h
    · cases h
    rename_i l' z h2
    injection h with h
    injection h with e1 e2
    subst e1; subst e2
    rw [cntNds] at hr
    have hlen : ∀ {c : Nat} {b : List UInt8} {l : List Nd} {r : List UInt8}, pMany p c b = some (l, r) → l.length = c := by
      intro c
      induction c with
      | zero => intro b l r h; rw [pMany] at h; injection h with h; injection h with e1 _; subst e1; rfl
      | succ c ih =>
        intro b l r h
        rw [pMany] at h
        split at h
        · cases h
        split at h
        · cases h
        rename_i h2
        injection h with h
        injection h with e1 _
        subst e1
        rw [List.length_cons, ih h2]
    have hl := hlen h2
    have hcl := AX.cnt_len l'
    have x1 := hf s x r1 hb h1 (by omega)
    have x2 := rMany_ok hf (s := ⟨bk r1, s.room - ((cntNd x : Nat) - 1 : Int), false⟩) rfl (by rw [kb_bk]; exact h2) (by dsimp only; omega)
    rw [rMany, if_neg (by rw [hb]; decide), x1]
    simp only
    rw [x2]
    simp only
    congr 2
    rw [cntNds]
    omega
/-- What can be read the program reads, if there is room. -/
theorem rNds_ok : ∀ (k : Nat) (d : Int) (s : RS) (l : List Nd) (r : List UInt8), (43 - d).toNat < k → s.bad = false → pNds (42 - d).toNat (kb s.b) = some (l, r) → (cntNds l : Int) ≤ s.room → rNds k d s = (l, ⟨bk r, s.room - cntNds l, false⟩)
  | 0, _, _, _, _, hk, _, _, _ => absurd hk (Nat.not_lt_zero _)
  | k + 1, d, s, l, r, hk, hb, h, hr => by
    have hd : d ≤ 41 := by
      rcases Int.lt_or_le 41 d with h' | h'
      · rw [show (42 - d).toNat = 0 by omega] at h; cases h
      · exact h'
    have e1 : (42 - d).toNat = (42 - (d + 1)).toNat + 1 := by omega
    rw [e1, pNds] at h
    split at h
    · cases h
    rename_i c r1 h1
    split at h
    · cases h
    have hlen : l.length = c := (pMany_inv (fun b n r hb => pNd_inv (pNds_inv _) hb) h).2
    have hcl := AX.cnt_len l
    have x1 := rNum_ok (m := s.room) h1 (by omega)
    have eh : rHead d s = ⟨bk r1, s.room - c, false⟩ := by
      unfold rHead
      rw [x1, hb]
      simp only [decide_eq_false (show ¬ d > 41 by omega), Bool.or_false]
    rw [rNds, eh, x1]
    simp only [Int.toNat_natCast]
    rw [rMany_ok (fun s n r hb h hr => rNode_ok (fun s l r hb h hr => rNds_ok k (d + 1) s l r (by omega) hb h hr) hb h hr) (s := ⟨bk r1, s.room - c, false⟩) rfl (by rw [kb_bk]; exact h) (by dsimp only; omega)]
    congr 2
    dsimp only
    omega
end Go.Proofs.YtpbpabadbipfdaaGreatDoor.AXP
end
section
namespace Go.Proofs.YtpbpabadbipfdaaGreatDoor.AXP
open Go Go.Proofs.YtpbpabadbipfdaaGreatDoor.AX
def rdS (b : ByteArray) : List Nd × RS := rNds 43 1 ⟨b, 300, false⟩
def rdOK (b : ByteArray) : Bool := !(rdS b).2.bad && eqS (rdS b).2.b ⟨#[]⟩ && (checkS (rdS b).1 == 0)
def rdL (b : ByteArray) : List Nd := if rdOK b = true then (rdS b).1 else []
def rdE (b : ByteArray) : Int := if rdOK b = true then 0 else 4
def rdPre (b : ByteArray) : Prop := (rdS b).2.bad = false → (rdS b).2.b.size = 0 → fineNds (rdS b).1
def nV (m : Int) (b : ByteArray) : Int := (rNum m ⟨b, 0, false⟩).1
def nB (m : Int) (b : ByteArray) : ByteArray := (rNum m ⟨b, 0, false⟩).2.b
def nE (m : Int) (b : ByteArray) : Bool := (rNum m ⟨b, 0, false⟩).2.bad
def tV (b : ByteArray) : ByteArray := (rTxt ⟨b, 0, false⟩).1
def tB (b : ByteArray) : ByteArray := (rTxt ⟨b, 0, false⟩).2.b
def tE (b : ByteArray) : Bool := (rTxt ⟨b, 0, false⟩).2.bad
def aL (k : Int) (b : ByteArray) (e : Bool) : List At := (rAtts k.toNat ⟨b, 0, e⟩).1
def aB (k : Int) (b : ByteArray) (e : Bool) : ByteArray := (rAtts k.toNat ⟨b, 0, e⟩).2.b
def aE (k : Int) (b : ByteArray) (e : Bool) : Bool := (rAtts k.toNat ⟨b, 0, e⟩).2.bad
end Go.Proofs.YtpbpabadbipfdaaGreatDoor.AXP
namespace Go.Proofs.YtpbpabadbipfdaaGreatDoor.AX
open Go AXP
noncomputable def cxRn : Cx := cxT (tabLook [(66, conTkN), (82, conTkT)])
def conRNum : Con := fun args hp => match args, hp with
  | [.ptr 0 0, .int .i64 m], [.box [.str b, .int .i64 r, .bool e]] => some { res := .int .i64 (nV m b), hp := [.box [.str (nB m b), .int .i64 r, .bool (e || nE m b)]] }
  | _, _ => none
def conRTxt : Con := fun args hp => match args, hp with
  | [.ptr 0 0], [.box [.str b, .int .i64 r, .bool e]] => some { res := .str (tV b), hp := [.box [.str (tB b), .int .i64 r, .bool (e || tE b)]] }
  | _, _ => none
noncomputable def conRNds (k : Nat) : Con := fun args hp => match args, hp with
  | [.ptr 0 0, .int .i64 d], [.box [.str b, .int .i64 r, .bool e]] => some { pre := some ((43 - d).toNat < k ∧ 0 ≤ r ∧ r ≤ 300 ∧ 1 ≤ d ∧ d ≤ 42), res := .own 1 0, hp := [.box [.str (rNds k d ⟨b, r, e⟩).2.b, .int .i64 (rNds k d ⟨b, r, e⟩).2.room, .bool (rNds k d ⟨b, r, e⟩).2.bad]], extra := [.rowb 0 .node (rNds k d ⟨b, r, e⟩).1] }
  | _, _ => none
noncomputable def cxRNode (k : Nat) : Cx := cxT (tabLook [(49, conRNum), (67, conRTxt), (42, conLeaf), (23, conRNds k)])
noncomputable def lsRNode : LS where
  keep := [(0, .as), (1, .as), (4, .as), (5, .as), (6, .as)]
  left := [(0, .as), (1, .as), (4, .as), (5, .as)]
  sum := fun vs bs K => match vs, bs with
    | [.ptr 0 0, .int .i64 d, .ptr 1 0, .ptr 2 0, .int .i64 k], [.box [.str b, .int .i64 r, .bool e], .box [.int .i64 z0, .int .i64 z1, .str z2, .nil, .str z4, .nil], .box [.int .i64 c0, .int .i64 c1, .str c2, .nil, .str c4, .nil]] => Rq (0 ≤ k ∧ k ≤ 12)
      (Br ((aL k b e).length == 0)
        (K (.exit 0) [.ptr 0 0, .int .i64 d, .ptr 1 0, .ptr 2 0] [.box [.str (aB k b e), .int .i64 r, .bool (aE k b e)], .box [.int .i64 z0, .int .i64 z1, .str z2, .nil, .str z4, .nil], .box [.int .i64 c0, .int .i64 c1, .str c2, .nil, .str c4, .nil]])
        (K (.exit 0) [.ptr 0 0, .int .i64 d, .ptr 1 0, .ptr 2 0] [.box [.str (aB k b e), .int .i64 r, .bool (aE k b e)], .box [.int .i64 z0, .int .i64 z1, .str z2, .nil, .str z4, .nil], .box [.int .i64 c0, .int .i64 c1, .str c2, .own 3 0, .str c4, .nil], .rowb 0 .attr (aL k b e)]))
    | _, _ => False
noncomputable def conRNode (k : Nat) : Con := fun args hp => match args, hp with
  | [.ptr 0 0, .int .i64 d], [.box [.str b, .int .i64 r, .bool e]] => some { pre := some ((42 - d).toNat < k ∧ 0 ≤ r ∧ r ≤ 300 ∧ 1 ≤ d ∧ d ≤ 41), res := .agg (nodeL (rNode (rNds k (d + 1)) ⟨b, r, e⟩).1), hp := [.box [.str (rNode (rNds k (d + 1)) ⟨b, r, e⟩).2.b, .int .i64 (rNode (rNds k (d + 1)) ⟨b, r, e⟩).2.room, .bool (rNode (rNds k (d + 1)) ⟨b, r, e⟩).2.bad]] }
  | _, _ => none
noncomputable def cxRNds (k : Nat) : Cx := cxT (tabLook [(49, conRNum), (50, conRNode k)])
noncomputable def lsRNds (k : Nat) : LS where
  keep := [(0, .as), (1, .as), (5, .own .node), (6, .as), (7, .as)]
  left := [(0, .as), (5, .own .node)]
  sum := fun vs bs K => match vs, bs with
    | [.ptr 0 0, .int .i64 d, .own 1 0, .int .i64 n, .int .i64 i], [.box [.str b, .int .i64 r, .bool e], .rowb 0 .node out] => Rq (i = 0 ∧ out.length = 0 ∧ 0 ≤ n ∧ n ≤ 300 ∧ 0 ≤ r ∧ r ≤ 300 ∧ (e = false → (42 - d).toNat < k ∧ 1 ≤ d ∧ d ≤ 41))
      (K (.exit 0) [.ptr 0 0, .own 1 0] [.box [.str (rMany (rNode (rNds k (d + 1))) n.toNat ⟨b, r, e⟩).2.b, .int .i64 (rMany (rNode (rNds k (d + 1))) n.toNat ⟨b, r, e⟩).2.room, .bool (rMany (rNode (rNds k (d + 1))) n.toNat ⟨b, r, e⟩).2.bad], .rowb 0 .node (rMany (rNode (rNds k (d + 1))) n.toNat ⟨b, r, e⟩).1])
    | _, _ => False
noncomputable def cxRead : Cx := cxT (tabLook [(23, conRNds 43), (16, conChk)])
end Go.Proofs.YtpbpabadbipfdaaGreatDoor.AX
end
section
namespace Go.Proofs.YtpbpabadbipfdaaGreatDoor.AX
open Go AXP
set_option maxRecDepth 100000
theorem vcRNumF (m r : Int) (b : ByteArray) (e : Bool) (Q : List AV → List Blk → List Blk → Prop) : (funA cxRn (LL Tryz.f49 []) Tryz.f49 [.ptr 0 0, .int .i64 m] [.box [.str b, .int .i64 r, .bool e]] [] Q) = (
Br (tkE b != (0 : Int)) (Q [AV.int IntKind.i64 (0 : Int)] [Blk.box [AV.str b, AV.int IntKind.i64 r, AV.bool true]] [])
  (Br (decide (tkN b > m))
    (Q [AV.int IntKind.i64 (0 : Int)] [Blk.box [AV.str b, AV.int IntKind.i64 r, AV.bool true]] [])
    (Q [AV.int IntKind.i64 (tkN b)] [Blk.box [AV.str (tkR b), AV.int IntKind.i64 r, AV.bool e]] []))) := by kernel_rfl
theorem vcRTxtF (r : Int) (b : ByteArray) (e : Bool) (Q : List AV → List Blk → List Blk → Prop) : (funA cxRn (LL Tryz.f67 []) Tryz.f67 [.ptr 0 0] [.box [.str b, .int .i64 r, .bool e]] [] Q) = (
Br (ttE b != (0 : Int))
  (Q [AV.str (ByteArray.mk (Array.mk []))] [Blk.box [AV.str b, AV.int IntKind.i64 r, AV.bool true]] [])
  (Q [AV.str (ttS b)] [Blk.box [AV.str (ttR b), AV.int IntKind.i64 r, AV.bool e]] [])) := by kernel_rfl
theorem vcRNode0 (j : Nat) (d r k z0 z1 c0 c1 : Int) (b z2 z4 c2 c4 : ByteArray) (e : Bool) (K : Ex → List AV → List Blk → Prop) : (bodyA (cxRNode j) (LL Tryz.f50 [lsRNode]) Tryz.f50.ntmps (loopAt Tryz.f50 0).1 (loopAt Tryz.f50 0).2 lsRNode.keep lsRNode.left K [.ptr 0 0, .int .i64 d, .ptr 1 0, .ptr 2 0, .int .i64 k] [.box [.str b, .int .i64 r, .bool e], .box [.int .i64 z0, .int .i64 z1, .str z2, .nil, .str z4, .nil], .box [.int .i64 c0, .int .i64 c1, .str c2, .nil, .str c4, .nil]]) = (
Br (decide (k > (0 : Int)))
  (Br (!e)
    (Rq ([At.mk (tV b) (tV (tB b))].length * (32 : Nat) ≤ maxSl)
      (K Ex.norm
        [AV.ptr (0 : Nat) (0 : Nat), AV.int IntKind.i64 d, AV.ptr ((0 : Nat) + (1 : Nat)) (0 : Nat),
          AV.ptr ((0 : Nat) + (1 : Nat) + (1 : Nat)) (0 : Nat), AV.int IntKind.i64 (IntKind.i64.wrap (k - (1 : Int)))]
        [Blk.box [AV.str (tB (tB b)), AV.int IntKind.i64 r, AV.bool (e || tE b || tE (tB b))],
          Blk.box [AV.int IntKind.i64 z0, AV.int IntKind.i64 z1, AV.str z2, AV.nil, AV.str z4, AV.nil],
          Blk.box
            [AV.int IntKind.i64 c0, AV.int IntKind.i64 c1, AV.str c2,
              AV.own ((0 : Nat) + (1 : Nat) + (1 : Nat) + (1 : Nat)) (0 : Nat), AV.str c4, AV.nil],
          Blk.rowb (0 : Nat) Ty.attr [At.mk (tV b) (tV (tB b))]]))
    (K (Ex.exit (0 : Nat))
      [AV.ptr (0 : Nat) (0 : Nat), AV.int IntKind.i64 d, AV.ptr ((0 : Nat) + (1 : Nat)) (0 : Nat),
        AV.ptr ((0 : Nat) + (1 : Nat) + (1 : Nat)) (0 : Nat)]
      [Blk.box [AV.str b, AV.int IntKind.i64 r, AV.bool e],
        Blk.box [AV.int IntKind.i64 z0, AV.int IntKind.i64 z1, AV.str z2, AV.nil, AV.str z4, AV.nil],
        Blk.box [AV.int IntKind.i64 c0, AV.int IntKind.i64 c1, AV.str c2, AV.nil, AV.str c4, AV.nil]]))
  (K (Ex.exit (0 : Nat))
    [AV.ptr (0 : Nat) (0 : Nat), AV.int IntKind.i64 d, AV.ptr ((0 : Nat) + (1 : Nat)) (0 : Nat),
      AV.ptr ((0 : Nat) + (1 : Nat) + (1 : Nat)) (0 : Nat)]
    [Blk.box [AV.str b, AV.int IntKind.i64 r, AV.bool e],
      Blk.box [AV.int IntKind.i64 z0, AV.int IntKind.i64 z1, AV.str z2, AV.nil, AV.str z4, AV.nil],
      Blk.box [AV.int IntKind.i64 c0, AV.int IntKind.i64 c1, AV.str c2, AV.nil, AV.str c4, AV.nil]])) := by kernel_rfl
theorem vcRNode1 (j : Nat) (d r k z0 z1 c0 c1 : Int) (b z2 z4 c2 c4 : ByteArray) (e : Bool) (a : List At) (K : Ex → List AV → List Blk → Prop) : (bodyA (cxRNode j) (LL Tryz.f50 [lsRNode]) Tryz.f50.ntmps (loopAt Tryz.f50 0).1 (loopAt Tryz.f50 0).2 lsRNode.keep lsRNode.left K [.ptr 0 0, .int .i64 d, .ptr 1 0, .ptr 2 0, .int .i64 k] [.box [.str b, .int .i64 r, .bool e], .box [.int .i64 z0, .int .i64 z1, .str z2, .nil, .str z4, .nil], .box [.int .i64 c0, .int .i64 c1, .str c2, .own 3 0, .str c4, .nil], .rowb 0 .attr a]) = (
Br (decide (k > (0 : Int)))
  (Br (!e)
    (Rq ((a.length + [At.mk (tV b) (tV (tB b))].length) * (32 : Nat) ≤ maxSl)
      (K Ex.norm
        [AV.ptr (0 : Nat) (0 : Nat), AV.int IntKind.i64 d, AV.ptr ((0 : Nat) + (1 : Nat)) (0 : Nat),
          AV.ptr ((0 : Nat) + (1 : Nat) + (1 : Nat)) (0 : Nat), AV.int IntKind.i64 (IntKind.i64.wrap (k - (1 : Int)))]
        [Blk.box [AV.str (tB (tB b)), AV.int IntKind.i64 r, AV.bool (e || tE b || tE (tB b))],
          Blk.box [AV.int IntKind.i64 z0, AV.int IntKind.i64 z1, AV.str z2, AV.nil, AV.str z4, AV.nil],
          Blk.box
            [AV.int IntKind.i64 c0, AV.int IntKind.i64 c1, AV.str c2,
              AV.own ((0 : Nat) + (1 : Nat) + (1 : Nat) + (1 : Nat)) (0 : Nat), AV.str c4, AV.nil],
          Blk.rowb (0 : Nat) Ty.attr (a ++ [At.mk (tV b) (tV (tB b))])]))
    (K (Ex.exit (0 : Nat))
      [AV.ptr (0 : Nat) (0 : Nat), AV.int IntKind.i64 d, AV.ptr ((0 : Nat) + (1 : Nat)) (0 : Nat),
        AV.ptr ((0 : Nat) + (1 : Nat) + (1 : Nat)) (0 : Nat)]
      [Blk.box [AV.str b, AV.int IntKind.i64 r, AV.bool e],
        Blk.box [AV.int IntKind.i64 z0, AV.int IntKind.i64 z1, AV.str z2, AV.nil, AV.str z4, AV.nil],
        Blk.box
          [AV.int IntKind.i64 c0, AV.int IntKind.i64 c1, AV.str c2,
            AV.own ((0 : Nat) + (1 : Nat) + (1 : Nat) + (1 : Nat)) (0 : Nat), AV.str c4, AV.nil],
        Blk.rowb (0 : Nat) Ty.attr a]))
  (K (Ex.exit (0 : Nat))
    [AV.ptr (0 : Nat) (0 : Nat), AV.int IntKind.i64 d, AV.ptr ((0 : Nat) + (1 : Nat)) (0 : Nat),
      AV.ptr ((0 : Nat) + (1 : Nat) + (1 : Nat)) (0 : Nat)]
    [Blk.box [AV.str b, AV.int IntKind.i64 r, AV.bool e],
      Blk.box [AV.int IntKind.i64 z0, AV.int IntKind.i64 z1, AV.str z2, AV.nil, AV.str z4, AV.nil],
      Blk.box
        [AV.int IntKind.i64 c0, AV.int IntKind.i64 c1, AV.str c2,
          AV.own ((0 : Nat) + (1 : Nat) + (1 : Nat) + (1 : Nat)) (0 : Nat), AV.str c4, AV.nil],
      Blk.rowb (0 : Nat) Ty.attr a])) := by kernel_rfl
theorem vcRNodeF (k : Nat) (d r : Int) (b : ByteArray) (e : Bool) (Q : List AV → List Blk → List Blk → Prop) : (funA (cxRNode k) (LL Tryz.f50 [lsRNode]) Tryz.f50 [.ptr 0 0, .int .i64 d] [.box [.str b, .int .i64 r, .bool e]] [.as, .as, .as, .row .attr, .as, .row .node] Q) = (
Br (leafB (Nd.mk (nV (3 : Int) b) (0 : Int) (ByteArray.mk (Array.mk [])) [] (ByteArray.mk (Array.mk [])) []))
  (Q
    [AV.agg
        [AV.int IntKind.i64 (nV (3 : Int) b), AV.int IntKind.i64 (0 : Int), AV.str (ByteArray.mk (Array.mk [])),
          AV.row Ty.attr [], AV.str (tV (nB (3 : Int) b)), AV.row Ty.node []]]
    [Blk.box [AV.str (tB (nB (3 : Int) b)), AV.int IntKind.i64 r, AV.bool (e || nE (3 : Int) b || tE (nB (3 : Int) b))]]
    [])
  (Rq
    ((0 : Int) ≤ nV (12 : Int) (tB (nB (2 : Int) (nB (3 : Int) b))) ∧
      nV (12 : Int) (tB (nB (2 : Int) (nB (3 : Int) b))) ≤ (12 : Int))
    (Br
      ((aL (nV (12 : Int) (tB (nB (2 : Int) (nB (3 : Int) b)))) (nB (12 : Int) (tB (nB (2 : Int) (nB (3 : Int) b))))
            (e || nE (3 : Int) b || nE (2 : Int) (nB (3 : Int) b) || tE (nB (2 : Int) (nB (3 : Int) b)) ||
              nE (12 : Int) (tB (nB (2 : Int) (nB (3 : Int) b))))).length ==
        (0 : Nat))
      (Rq
        (((43 : Int) - IntKind.i64.wrap (d + (1 : Int))).toNat < k ∧
          (0 : Int) ≤ r ∧
            r ≤ (300 : Int) ∧
              (1 : Int) ≤ IntKind.i64.wrap (d + (1 : Int)) ∧ IntKind.i64.wrap (d + (1 : Int)) ≤ (42 : Int))
        (Q
          [AV.agg
              [AV.int IntKind.i64 (nV (3 : Int) b), AV.int IntKind.i64 (nV (2 : Int) (nB (3 : Int) b)),
                AV.str (tV (nB (2 : Int) (nB (3 : Int) b))), AV.row Ty.attr [], AV.str (ByteArray.mk (Array.mk [])),
                AV.row Ty.node
                  (rNds k (IntKind.i64.wrap (d + (1 : Int)))
                      (RS.mk
                        (aB (nV (12 : Int) (tB (nB (2 : Int) (nB (3 : Int) b))))
                          (nB (12 : Int) (tB (nB (2 : Int) (nB (3 : Int) b))))
                          (e || nE (3 : Int) b || nE (2 : Int) (nB (3 : Int) b) || tE (nB (2 : Int) (nB (3 : Int) b)) ||
                            nE (12 : Int) (tB (nB (2 : Int) (nB (3 : Int) b)))))
                        r
                        (aE (nV (12 : Int) (tB (nB (2 : Int) (nB (3 : Int) b))))
                          (nB (12 : Int) (tB (nB (2 : Int) (nB (3 : Int) b))))
                          (e || nE (3 : Int) b || nE (2 : Int) (nB (3 : Int) b) || tE (nB (2 : Int) (nB (3 : Int) b)) ||
                            nE (12 : Int) (tB (nB (2 : Int) (nB (3 : Int) b))))))).1]]
          [Blk.box
              [AV.str
                  (rNds k (IntKind.i64.wrap (d + (1 : Int)))
                        (RS.mk
                          (aB (nV (12 : Int) (tB (nB (2 : Int) (nB (3 : Int) b))))
                            (nB (12 : Int) (tB (nB (2 : Int) (nB (3 : Int) b))))
                            (e || nE (3 : Int) b || nE (2 : Int) (nB (3 : Int) b) ||
                                tE (nB (2 : Int) (nB (3 : Int) b)) ||
                              nE (12 : Int) (tB (nB (2 : Int) (nB (3 : Int) b)))))
                          r
                          (aE (nV (12 : Int) (tB (nB (2 : Int) (nB (3 : Int) b))))
                            (nB (12 : Int) (tB (nB (2 : Int) (nB (3 : Int) b))))
                            (e || nE (3 : Int) b || nE (2 : Int) (nB (3 : Int) b) ||
                                tE (nB (2 : Int) (nB (3 : Int) b)) ||
                              nE (12 : Int) (tB (nB (2 : Int) (nB (3 : Int) b))))))).2.b,
                AV.int IntKind.i64
                  (rNds k (IntKind.i64.wrap (d + (1 : Int)))
                        (RS.mk
                          (aB (nV (12 : Int) (tB (nB (2 : Int) (nB (3 : Int) b))))
                            (nB (12 : Int) (tB (nB (2 : Int) (nB (3 : Int) b))))
                            (e || nE (3 : Int) b || nE (2 : Int) (nB (3 : Int) b) ||
                                tE (nB (2 : Int) (nB (3 : Int) b)) ||
                              nE (12 : Int) (tB (nB (2 : Int) (nB (3 : Int) b)))))
                          r
                          (aE (nV (12 : Int) (tB (nB (2 : Int) (nB (3 : Int) b))))
                            (nB (12 : Int) (tB (nB (2 : Int) (nB (3 : Int) b))))
                            (e || nE (3 : Int) b || nE (2 : Int) (nB (3 : Int) b) ||
                                tE (nB (2 : Int) (nB (3 : Int) b)) ||
                              nE (12 : Int) (tB (nB (2 : Int) (nB (3 : Int) b))))))).2.room,
                AV.bool
                  (rNds k (IntKind.i64.wrap (d + (1 : Int)))
                        (RS.mk
                          (aB (nV (12 : Int) (tB (nB (2 : Int) (nB (3 : Int) b))))
                            (nB (12 : Int) (tB (nB (2 : Int) (nB (3 : Int) b))))
                            (e || nE (3 : Int) b || nE (2 : Int) (nB (3 : Int) b) ||
                                tE (nB (2 : Int) (nB (3 : Int) b)) ||
                              nE (12 : Int) (tB (nB (2 : Int) (nB (3 : Int) b)))))
                          r
                          (aE (nV (12 : Int) (tB (nB (2 : Int) (nB (3 : Int) b))))
                            (nB (12 : Int) (tB (nB (2 : Int) (nB (3 : Int) b))))
                            (e || nE (3 : Int) b || nE (2 : Int) (nB (3 : Int) b) ||
                                tE (nB (2 : Int) (nB (3 : Int) b)) ||
                              nE (12 : Int) (tB (nB (2 : Int) (nB (3 : Int) b))))))).2.bad]]
          []))
      (Rq
        (((43 : Int) - IntKind.i64.wrap (d + (1 : Int))).toNat < k ∧
          (0 : Int) ≤ r ∧
            r ≤ (300 : Int) ∧
              (1 : Int) ≤ IntKind.i64.wrap (d + (1 : Int)) ∧ IntKind.i64.wrap (d + (1 : Int)) ≤ (42 : Int))
        (Q
          [AV.agg
              [AV.int IntKind.i64 (nV (3 : Int) b), AV.int IntKind.i64 (nV (2 : Int) (nB (3 : Int) b)),
                AV.str (tV (nB (2 : Int) (nB (3 : Int) b))),
                AV.row Ty.attr
                  (aL (nV (12 : Int) (tB (nB (2 : Int) (nB (3 : Int) b))))
                    (nB (12 : Int) (tB (nB (2 : Int) (nB (3 : Int) b))))
                    (e || nE (3 : Int) b || nE (2 : Int) (nB (3 : Int) b) || tE (nB (2 : Int) (nB (3 : Int) b)) ||
                      nE (12 : Int) (tB (nB (2 : Int) (nB (3 : Int) b))))),
                AV.str (ByteArray.mk (Array.mk [])),
                AV.row Ty.node
                  (rNds k (IntKind.i64.wrap (d + (1 : Int)))
                      (RS.mk
                        (aB (nV (12 : Int) (tB (nB (2 : Int) (nB (3 : Int) b))))
                          (nB (12 : Int) (tB (nB (2 : Int) (nB (3 : Int) b))))
                          (e || nE (3 : Int) b || nE (2 : Int) (nB (3 : Int) b) || tE (nB (2 : Int) (nB (3 : Int) b)) ||
                            nE (12 : Int) (tB (nB (2 : Int) (nB (3 : Int) b)))))
                        r
                        (aE (nV (12 : Int) (tB (nB (2 : Int) (nB (3 : Int) b))))
                          (nB (12 : Int) (tB (nB (2 : Int) (nB (3 : Int) b))))
                          (e || nE (3 : Int) b || nE (2 : Int) (nB (3 : Int) b) || tE (nB (2 : Int) (nB (3 : Int) b)) ||
                            nE (12 : Int) (tB (nB (2 : Int) (nB (3 : Int) b))))))).1]]
          [Blk.box
              [AV.str
                  (rNds k (IntKind.i64.wrap (d + (1 : Int)))
                        (RS.mk
                          (aB (nV (12 : Int) (tB (nB (2 : Int) (nB (3 : Int) b))))
                            (nB (12 : Int) (tB (nB (2 : Int) (nB (3 : Int) b))))
                            (e || nE (3 : Int) b || nE (2 : Int) (nB (3 : Int) b) ||
                                tE (nB (2 : Int) (nB (3 : Int) b)) ||
                              nE (12 : Int) (tB (nB (2 : Int) (nB (3 : Int) b)))))
                          r
                          (aE (nV (12 : Int) (tB (nB (2 : Int) (nB (3 : Int) b))))
                            (nB (12 : Int) (tB (nB (2 : Int) (nB (3 : Int) b))))
                            (e || nE (3 : Int) b || nE (2 : Int) (nB (3 : Int) b) ||
                                tE (nB (2 : Int) (nB (3 : Int) b)) ||
                              nE (12 : Int) (tB (nB (2 : Int) (nB (3 : Int) b))))))).2.b,
                AV.int IntKind.i64
                  (rNds k (IntKind.i64.wrap (d + (1 : Int)))
                        (RS.mk
                          (aB (nV (12 : Int) (tB (nB (2 : Int) (nB (3 : Int) b))))
                            (nB (12 : Int) (tB (nB (2 : Int) (nB (3 : Int) b))))
                            (e || nE (3 : Int) b || nE (2 : Int) (nB (3 : Int) b) ||
                                tE (nB (2 : Int) (nB (3 : Int) b)) ||
                              nE (12 : Int) (tB (nB (2 : Int) (nB (3 : Int) b)))))
                          r
                          (aE (nV (12 : Int) (tB (nB (2 : Int) (nB (3 : Int) b))))
                            (nB (12 : Int) (tB (nB (2 : Int) (nB (3 : Int) b))))
                            (e || nE (3 : Int) b || nE (2 : Int) (nB (3 : Int) b) ||
                                tE (nB (2 : Int) (nB (3 : Int) b)) ||
                              nE (12 : Int) (tB (nB (2 : Int) (nB (3 : Int) b))))))).2.room,
                AV.bool
                  (rNds k (IntKind.i64.wrap (d + (1 : Int)))
                        (RS.mk
                          (aB (nV (12 : Int) (tB (nB (2 : Int) (nB (3 : Int) b))))
                            (nB (12 : Int) (tB (nB (2 : Int) (nB (3 : Int) b))))
                            (e || nE (3 : Int) b || nE (2 : Int) (nB (3 : Int) b) ||
                                tE (nB (2 : Int) (nB (3 : Int) b)) ||
                              nE (12 : Int) (tB (nB (2 : Int) (nB (3 : Int) b)))))
                          r
                          (aE (nV (12 : Int) (tB (nB (2 : Int) (nB (3 : Int) b))))
                            (nB (12 : Int) (tB (nB (2 : Int) (nB (3 : Int) b))))
                            (e || nE (3 : Int) b || nE (2 : Int) (nB (3 : Int) b) ||
                                tE (nB (2 : Int) (nB (3 : Int) b)) ||
                              nE (12 : Int) (tB (nB (2 : Int) (nB (3 : Int) b))))))).2.bad]]
          []))))) := by kernel_rfl
theorem vcRNdsB (k : Nat) (d r n i : Int) (b : ByteArray) (e : Bool) (out : List Nd) (K : Ex → List AV → List Blk → Prop) : (bodyA (cxRNds k) (LL Tryz.f23 [lsRNds k]) Tryz.f23.ntmps (loopAt Tryz.f23 0).1 (loopAt Tryz.f23 0).2 (lsRNds k).keep (lsRNds k).left K [.ptr 0 0, .int .i64 d, .own 1 0, .int .i64 n, .int .i64 i] [.box [.str b, .int .i64 r, .bool e], .rowb 0 .node out]) = (
Br (decide (i < n))
  (Br (!e)
    (Rq (((42 : Int) - d).toNat < k ∧ (0 : Int) ≤ r ∧ r ≤ (300 : Int) ∧ (1 : Int) ≤ d ∧ d ≤ (41 : Int))
      (Rq
        ((out.length +
              [Nd.mk (rNode (rNds k (d + (1 : Int))) (RS.mk b r e)).1.1
                    (rNode (rNds k (d + (1 : Int))) (RS.mk b r e)).1.2
                    (rNode (rNds k (d + (1 : Int))) (RS.mk b r e)).1.3
                    (rNode (rNds k (d + (1 : Int))) (RS.mk b r e)).1.4
                    (rNode (rNds k (d + (1 : Int))) (RS.mk b r e)).1.5
                    (rNode (rNds k (d + (1 : Int))) (RS.mk b r e)).1.6].length) *
            (96 : Nat) ≤
          maxSl)
        (K Ex.norm
          [AV.ptr (0 : Nat) (0 : Nat), AV.int IntKind.i64 d, AV.own ((0 : Nat) + (1 : Nat)) (0 : Nat),
            AV.int IntKind.i64 n, AV.int IntKind.i64 (IntKind.i64.wrap (i + (1 : Int)))]
          [Blk.box
              [AV.str (rNode (rNds k (d + (1 : Int))) (RS.mk b r e)).2.b,
                AV.int IntKind.i64 (rNode (rNds k (d + (1 : Int))) (RS.mk b r e)).2.room,
                AV.bool (rNode (rNds k (d + (1 : Int))) (RS.mk b r e)).2.bad],
            Blk.rowb (0 : Nat) Ty.node
              (out ++
                [Nd.mk (rNode (rNds k (d + (1 : Int))) (RS.mk b r e)).1.1
                    (rNode (rNds k (d + (1 : Int))) (RS.mk b r e)).1.2
                    (rNode (rNds k (d + (1 : Int))) (RS.mk b r e)).1.3
                    (rNode (rNds k (d + (1 : Int))) (RS.mk b r e)).1.4
                    (rNode (rNds k (d + (1 : Int))) (RS.mk b r e)).1.5
                    (rNode (rNds k (d + (1 : Int))) (RS.mk b r e)).1.6])])))
    (K (Ex.exit (0 : Nat)) [AV.ptr (0 : Nat) (0 : Nat), AV.own ((0 : Nat) + (1 : Nat)) (0 : Nat)]
      [Blk.box [AV.str b, AV.int IntKind.i64 r, AV.bool e], Blk.rowb (0 : Nat) Ty.node out]))
  (K (Ex.exit (0 : Nat)) [AV.ptr (0 : Nat) (0 : Nat), AV.own ((0 : Nat) + (1 : Nat)) (0 : Nat)]
    [Blk.box [AV.str b, AV.int IntKind.i64 r, AV.bool e], Blk.rowb (0 : Nat) Ty.node out])) := by kernel_rfl
theorem vcRNdsF (k : Nat) (d r : Int) (b : ByteArray) (e : Bool) (Q : List AV → List Blk → List Blk → Prop) : (funA (cxRNds k) (LL Tryz.f23 [lsRNds k]) Tryz.f23 [.ptr 0 0, .int .i64 d] [.box [.str b, .int .i64 r, .bool e]] [.own .node] Q) = (
Br (decide (d > (41 : Int)))
  (Rq
    ((0 : Int) = (0 : Int) ∧
      (0 : Nat) = (0 : Nat) ∧
        (0 : Int) ≤ nV r b ∧
          nV r b ≤ (300 : Int) ∧
            (0 : Int) ≤ IntKind.i64.wrap (r - nV r b) ∧
              IntKind.i64.wrap (r - nV r b) ≤ (300 : Int) ∧
                (true = false → ((42 : Int) - d).toNat < k ∧ (1 : Int) ≤ d ∧ d ≤ (41 : Int)))
    (Q [AV.own ((0 : Nat) + (1 : Nat)) (0 : Nat)]
      [Blk.box
          [AV.str
              (rMany (rNode (rNds k (d + (1 : Int)))) (nV r b).toNat
                    (RS.mk (nB r b) (IntKind.i64.wrap (r - nV r b)) true)).2.b,
            AV.int IntKind.i64
              (rMany (rNode (rNds k (d + (1 : Int)))) (nV r b).toNat
                    (RS.mk (nB r b) (IntKind.i64.wrap (r - nV r b)) true)).2.room,
            AV.bool
              (rMany (rNode (rNds k (d + (1 : Int)))) (nV r b).toNat
                    (RS.mk (nB r b) (IntKind.i64.wrap (r - nV r b)) true)).2.bad]]
      [Blk.rowb (0 : Nat) Ty.node
          (rMany (rNode (rNds k (d + (1 : Int)))) (nV r b).toNat
              (RS.mk (nB r b) (IntKind.i64.wrap (r - nV r b)) true)).1]))
  (Rq
    ((0 : Int) = (0 : Int) ∧
      (0 : Nat) = (0 : Nat) ∧
        (0 : Int) ≤ nV r b ∧
          nV r b ≤ (300 : Int) ∧
            (0 : Int) ≤ IntKind.i64.wrap (r - nV r b) ∧
              IntKind.i64.wrap (r - nV r b) ≤ (300 : Int) ∧
                ((e || nE r b) = false → ((42 : Int) - d).toNat < k ∧ (1 : Int) ≤ d ∧ d ≤ (41 : Int)))
    (Q [AV.own ((0 : Nat) + (1 : Nat)) (0 : Nat)]
      [Blk.box
          [AV.str
              (rMany (rNode (rNds k (d + (1 : Int)))) (nV r b).toNat
                    (RS.mk (nB r b) (IntKind.i64.wrap (r - nV r b)) (e || nE r b))).2.b,
            AV.int IntKind.i64
              (rMany (rNode (rNds k (d + (1 : Int)))) (nV r b).toNat
                    (RS.mk (nB r b) (IntKind.i64.wrap (r - nV r b)) (e || nE r b))).2.room,
            AV.bool
              (rMany (rNode (rNds k (d + (1 : Int)))) (nV r b).toNat
                    (RS.mk (nB r b) (IntKind.i64.wrap (r - nV r b)) (e || nE r b))).2.bad]]
      [Blk.rowb (0 : Nat) Ty.node
          (rMany (rNode (rNds k (d + (1 : Int)))) (nV r b).toNat
              (RS.mk (nB r b) (IntKind.i64.wrap (r - nV r b)) (e || nE r b))).1]))) := by kernel_rfl
theorem vcReadF (b : ByteArray) (Q : List AV → List Blk → List Blk → Prop) : (funA cxRead (LL Tryz.f9 []) Tryz.f9 [.str b] [] [.row .node, .as] Q) = (
Rq
  (((43 : Int) - (1 : Int)).toNat < (43 : Nat) ∧
    (0 : Int) ≤ (300 : Int) ∧ (300 : Int) ≤ (300 : Int) ∧ (1 : Int) ≤ (1 : Int) ∧ (1 : Int) ≤ (42 : Int))
  (Br (rNds (43 : Nat) (1 : Int) (RS.mk b (300 : Int) false)).2.bad
    (Q [AV.row Ty.node [], AV.int IntKind.i64 (4 : Int)] [] [])
    (Br (!eqS (rNds (43 : Nat) (1 : Int) (RS.mk b (300 : Int) false)).2.b (ByteArray.mk (Array.mk [])))
      (Q [AV.row Ty.node [], AV.int IntKind.i64 (4 : Int)] [] [])
      (Rq (fineNds (rNds (43 : Nat) (1 : Int) (RS.mk b (300 : Int) false)).1)
        (Br (checkS (rNds (43 : Nat) (1 : Int) (RS.mk b (300 : Int) false)).1 != (0 : Int))
          (Q [AV.row Ty.node [], AV.int IntKind.i64 (4 : Int)] [] [])
          (Q [AV.row Ty.node (rNds (43 : Nat) (1 : Int) (RS.mk b (300 : Int) false)).1, AV.int IntKind.i64 (0 : Int)] []
            [])))))) := by kernel_rfl
end Go.Proofs.YtpbpabadbipfdaaGreatDoor.AX
end
section
namespace Go.Proofs.YtpbpabadbipfdaaGreatDoor.AXP
open Go Go.Proofs.YtpbpabadbipfdaaGreatDoor.AX
theorem rNum_sp (m : Int) (s : RS) : rNum m s = (nV m s.b, ⟨nB m s.b, s.room, s.bad || nE m s.b⟩) := by
  unfold nV nB nE rNum
  dsimp only
  cases takeN (kb s.b) with
  | none => simp
  | some p =>
    obtain ⟨n, r⟩ := p
    dsimp only
    by_cases h : (n : Int) > m
    · simp only [if_pos h, Bool.or_true]
    · simp only [if_neg h, Bool.or_false]
theorem rTxt_sp (s : RS) : rTxt s = (tV s.b, ⟨tB s.b, s.room, s.bad || tE s.b⟩) := by
  unfold tV tB tE rTxt
  dsimp only
  cases takeT (kb s.b) with
  | none => simp
  | some p => simp
theorem rAtts_sp : ∀ (c : Nat) (s : RS), rAtts c s = ((rAtts c ⟨s.b, 0, s.bad⟩).1, ⟨(rAtts c ⟨s.b, 0, s.bad⟩).2.b, s.room, (rAtts c ⟨s.b, 0, s.bad⟩).2.bad⟩)
  | 0, s => rfl
  | c + 1, s => by
    rw [rAtts, rAtts]
    cases hb : s.bad with
    | true =>
      simp only [if_true]
      rw [← hb]
    | false =>
      simp only [Bool.false_eq_true, if_false]
      rw [rTxt_sp s, rTxt_sp ⟨s.b, 0, false⟩]
      dsimp only
      rw [hb]
      rw [rTxt_sp ⟨tB s.b, s.room, false || tE s.b⟩, rTxt_sp ⟨tB s.b, 0, false || tE s.b⟩]
      dsimp only
      rw [rAtts_sp c ⟨tB (tB s.b), s.room, _⟩]
theorem a_zero (b : ByteArray) (e : Bool) : aL 0 b e = [] ∧ aB 0 b e = b ∧ aE 0 b e = e := ⟨rfl, rfl, rfl⟩
theorem a_bad (k : Nat) (b : ByteArray) : aL k b true = [] ∧ aB k b true = b ∧ aE k b true = true := by
  unfold aL aB aE
  rw [Int.toNat_natCast]
  cases k <;> exact ⟨rfl, rfl, rfl⟩
theorem a_step (k : Nat) (b : ByteArray) : aL ((k + 1 : Nat) : Int) b false = ⟨tV b, tV (tB b)⟩ :: aL k (tB (tB b)) (false || tE b || tE (tB b)) ∧ aB ((k + 1 : Nat) : Int) b false = aB k (tB (tB b)) (false || tE b || tE (tB b)) ∧ aE ((k + 1 : Nat) : Int) b false = aE k (tB (tB b)) (false || tE b || tE (tB b)) := by
  unfold aL aB aE
  rw [Int.toNat_natCast, Int.toNat_natCast, rAtts]
  simp only [Bool.false_eq_true, if_false]
  rw [rTxt_sp ⟨b, 0, false⟩]
  dsimp only
  rw [rTxt_sp ⟨tB b, 0, false || tE b⟩]
  exact ⟨rfl, rfl, rfl⟩
theorem nV_range {m : Int} (h : 0 ≤ m) (b : ByteArray) : 0 ≤ nV m b ∧ nV m b ≤ m := by
  unfold nV rNum
  dsimp only
  split
  · split
    · exact ⟨Int.le_refl _, h⟩
    · dsimp only; omega
  · exact ⟨Int.le_refl _, h⟩
theorem rNode_sp (rk : RS → List Nd × RS) (b : ByteArray) (r : Int) (e : Bool) : rNode rk ⟨b, r, e⟩ =
    if (nV 3 b == 2 || nV 3 b == 3) = true then (⟨nV 3 b, 0, bk [], [], tV (nB 3 b), []⟩, ⟨tB (nB 3 b), r, e || nE 3 b || tE (nB 3 b)⟩)
    else
      (⟨nV 3 b, nV 2 (nB 3 b), tV (nB 2 (nB 3 b)), aL (nV 12 (tB (nB 2 (nB 3 b)))) (nB 12 (tB (nB 2 (nB 3 b)))) (e || nE 3 b || nE 2 (nB 3 b) || tE (nB 2 (nB 3 b)) || nE 12 (tB (nB 2 (nB 3 b)))), bk [],
        (rk ⟨aB (nV 12 (tB (nB 2 (nB 3 b)))) (nB 12 (tB (nB 2 (nB 3 b)))) (e || nE 3 b || nE 2 (nB 3 b) || tE (nB 2 (nB 3 b)) || nE 12 (tB (nB 2 (nB 3 b)))), r, aE (nV 12 (tB (nB 2 (nB 3 b)))) (nB 12 (tB (nB 2 (nB 3 b)))) (e || nE 3 b || nE 2 (nB 3 b) || tE (nB 2 (nB 3 b)) || nE 12 (tB (nB 2 (nB 3 b))))⟩).1⟩,
        (rk ⟨aB (nV 12 (tB (nB 2 (nB 3 b)))) (nB 12 (tB (nB 2 (nB 3 b)))) (e || nE 3 b || nE 2 (nB 3 b) || tE (nB 2 (nB 3 b)) || nE 12 (tB (nB 2 (nB 3 b)))), r, aE (nV 12 (tB (nB 2 (nB 3 b)))) (nB 12 (tB (nB 2 (nB 3 b)))) (e || nE 3 b || nE 2 (nB 3 b) || tE (nB 2 (nB 3 b)) || nE 12 (tB (nB 2 (nB 3 b))))⟩).2) := by
  unfold rNode
  rw [rNum_sp 3 ⟨b, r, e⟩]
  dsimp only
  rw [rTxt_sp ⟨nB 3 b, r, e || nE 3 b⟩, rNum_sp 2 ⟨nB 3 b, r, e || nE 3 b⟩]
  dsimp only
  rw [rTxt_sp ⟨nB 2 (nB 3 b), r, _⟩]
  dsimp only
  rw [rNum_sp 12 ⟨tB (nB 2 (nB 3 b)), r, _⟩]
  dsimp only
  rw [rAtts_sp]
  rfl
theorem rNode_room {rk : RS → List Nd × RS} (hr : ∀ s, 0 ≤ s.room → 0 ≤ (rk s).2.room ∧ (rk s).2.room ≤ s.room) (s : RS) (h : 0 ≤ s.room) : 0 ≤ (rNode rk s).2.room ∧ (rNode rk s).2.room ≤ s.room := by
  obtain ⟨b, r, e⟩ := s
  rw [rNode_sp]
  split
  · exact ⟨h, Int.le_refl _⟩
  · exact hr _ h
theorem rMany_room {f : RS → Nd × RS} (hf : ∀ s, 0 ≤ s.room → 0 ≤ (f s).2.room ∧ (f s).2.room ≤ s.room) : ∀ (c : Nat) (s : RS), 0 ≤ s.room → 0 ≤ (rMany f c s).2.room ∧ (rMany f c s).2.room ≤ s.room
  | 0, s, h => ⟨h, Int.le_refl _⟩
  | c + 1, s, h => by
    rw [rMany]
    split
    · exact ⟨h, Int.le_refl _⟩
    · have h1 := hf s h
      have h2 := rMany_room hf c (f s).2 h1.1
      exact ⟨h2.1, by dsimp only; omega⟩
theorem rNds_room : ∀ (k : Nat) (d : Int) (s : RS), 0 ≤ s.room → 0 ≤ (rNds k d s).2.room ∧ (rNds k d s).2.room ≤ s.room
  | 0, d, s, h => ⟨h, Int.le_refl _⟩
  | k + 1, d, s, h => by
    rw [rNds]
    have hn := nV_range h s.b
    have e : (rHead d s).room = s.room - nV s.room s.b := by unfold rHead; rw [rNum_sp]
    have := rMany_room (rNode_room (rNds_room k (d + 1))) (rNum s.room s).1.toNat (rHead d s) (by omega)
    exact ⟨this.1, by omega⟩
theorem rMany_len {f : RS → Nd × RS} : ∀ (c : Nat) (s : RS), (rMany f c s).1.length ≤ c
  | 0, s => Nat.le_refl _
  | c + 1, s => by
    rw [rMany]
    split
    · exact Nat.zero_le _
    · have := rMany_len (f := f) c (f s).2
      show _ + 1 ≤ _
      omega
end Go.Proofs.YtpbpabadbipfdaaGreatDoor.AXP
namespace Go.Proofs.YtpbpabadbipfdaaGreatDoor.AX
open Go AXP
set_option maxRecDepth 100000
theorem rNum_holds : Holds 49 conRNum := by
  intro args hp ans hc
  unfold conRNum at hc
  split at hc
  case h_2 => cases hc
  rename_i m b r e
  injection hc with hc
  subst hc
  refine fun_meets0 (AllH.tok (.cons tkN_holds (by kernel_rfl) (.cons tkT_holds (by kernel_rfl) .nil))) [] (by kernel_rfl) (by kernel_rfl) fun _ => Eq.mpr (vcRNumF m r b e _) ?_
  have q : ∀ v b' e', (nV m b, nB m b, nE m b) = (v, b', e') → FinQ { res := .int .i64 (nV m b), hp := [.box [.str (nB m b), .int .i64 r, .bool (e || nE m b)]] } [.int .i64 v] [.box [.str b', .int .i64 r, .bool (e || e')]] [] := fun v b' e' h => by
    injection h with h1 h
    injection h with h2 h3
    rw [h1, h2, h3]
    exact qfin rfl rfl rfl rfl
  cases ht : takeN (kb b) with
  | none =>
    have e1 : tkE b = 4 := by unfold tkE; rw [ht]
    rw [e1]
    refine ⟨fun _ => ?_, fun h => absurd h (by decide)⟩
    have := q 0 b true (by unfold nV nB nE rNum; rw [ht])
    rw [Bool.or_true] at this
    exact this
  | some p =>
    obtain ⟨n, t⟩ := p
    have e1 : tkE b = 0 := by unfold tkE; rw [ht]
    have e2 : tkN b = n := by unfold tkN; rw [ht]
    have e3 : tkR b = bk t := by unfold tkR; rw [ht]
    rw [e1, e2, e3]
    refine ⟨fun h => absurd h (by decide), fun _ => ⟨fun h => ?_, fun h => ?_⟩⟩
    · have h := of_decide_eq_true h
      have := q 0 b true (by unfold nV nB nE rNum; rw [ht]; simp only [if_pos h])
      rw [Bool.or_true] at this
      exact this
    · have h := of_decide_eq_false h
      have := q n (bk t) false (by unfold nV nB nE rNum; rw [ht]; simp only [if_neg h])
      rw [Bool.or_false] at this
      exact this
theorem rTxt_holds : Holds 67 conRTxt := by
  intro args hp ans hc
  unfold conRTxt at hc
  split at hc
  case h_2 => cases hc
  rename_i b r e
  injection hc with hc
  subst hc
  refine fun_meets0 (AllH.tok (.cons tkN_holds (by kernel_rfl) (.cons tkT_holds (by kernel_rfl) .nil))) [] (by kernel_rfl) (by kernel_rfl) fun _ => Eq.mpr (vcRTxtF r b e _) ?_
  have q : ∀ v b' e', (tV b, tB b, tE b) = (v, b', e') → FinQ { res := .str (tV b), hp := [.box [.str (tB b), .int .i64 r, .bool (e || tE b)]] } [.str v] [.box [.str b', .int .i64 r, .bool (e || e')]] [] := fun v b' e' h => by
    injection h with h1 h
    injection h with h2 h3
    rw [h1, h2, h3]
    exact qfin rfl rfl rfl rfl
  cases ht : takeT (kb b) with
  | none =>
    have e1 : ttE b = 4 := by unfold ttE; rw [ht]
    rw [e1]
    refine ⟨fun _ => ?_, fun h => absurd h (by decide)⟩
    have := q (bk []) b true (by unfold tV tB tE rTxt; rw [ht])
    rw [Bool.or_true] at this
    exact this
  | some p =>
    obtain ⟨n, t⟩ := p
    have e1 : ttE b = 0 := by unfold ttE; rw [ht]
    have e2 : ttS b = bk n := by unfold ttS; rw [ht]
    have e3 : ttR b = bk t := by unfold ttR; rw [ht]
    rw [e1, e2, e3]
    refine ⟨fun h => absurd h (by decide), fun _ => ?_⟩
    have := q (bk n) (bk t) false (by unfold tV tB tE rTxt; rw [ht])
    rw [Bool.or_false] at this
    exact this
def blRN (r z0 z1 c0 c1 : Int) (z2 z4 c2 c4 b : ByteArray) (e : Bool) : List At → List Blk
  | [] => [.box [.str b, .int .i64 r, .bool e], .box [.int .i64 z0, .int .i64 z1, .str z2, .nil, .str z4, .nil], .box [.int .i64 c0, .int .i64 c1, .str c2, .nil, .str c4, .nil]]
  | x :: l => [.box [.str b, .int .i64 r, .bool e], .box [.int .i64 z0, .int .i64 z1, .str z2, .nil, .str z4, .nil], .box [.int .i64 c0, .int .i64 c1, .str c2, .own 3 0, .str c4, .nil], .rowb 0 .attr (x :: l)]
theorem rNode_sum (j : Nat) : SumOK (cxRNode j) (LL Tryz.f50 [lsRNode]) Tryz.f50.ntmps (loopAt Tryz.f50 0).1 (loopAt Tryz.f50 0).2 lsRNode := by
  intro vs bs K hs
  unfold lsRNode at hs
  simp only at hs
  split at hs
  case h_2 => exact hs.elim
  rename_i d k b r e z0 z1 z2 z4 c0 c1 c2 c4
  obtain ⟨⟨hk0, hk⟩, h⟩ := hs
  obtain ⟨k, rfl⟩ := Int.eq_ofNat_of_zero_le hk0
  refine sum_rec (σ := Nat × ByteArray × Bool × List At) (fun s => [.ptr 0 0, .int .i64 d, .ptr 1 0, .ptr 2 0, .int .i64 (s.1 : Nat)]) (fun s => blRN r z0 z1 c0 c1 z2 z4 c2 c4 s.2.1 s.2.2.1 s.2.2.2) (fun s => s.2.2.2 ++ aL s.1 s.2.1 s.2.2.1 = aL k b e ∧ aB s.1 s.2.1 s.2.2.1 = aB k b e ∧ aE s.1 s.2.1 s.2.2.1 = aE k b e ∧ s.1 + s.2.2.2.length ≤ 12) (fun s => s.1) ?_ (k, b, e, []) ⟨rfl, rfl, rfl, by dsimp only; simp only [List.length_nil]; omega⟩
  rintro ⟨i, b', e', acc⟩ ⟨h1, h2, h3, h4⟩ R hR
  dsimp only at h1 h2 h3 h4 hR ⊢
  have fin : aL (i : Int) b' e' = [] → aB (i : Int) b' e' = b' → aE (i : Int) b' e' = e' → K (.exit 0) [.ptr 0 0, .int .i64 d, .ptr 1 0, .ptr 2 0] (blRN r z0 z1 c0 c1 z2 z4 c2 c4 b' e' acc) := fun q1 q2 q3 => by
    rw [q1, List.append_nil] at h1
    rw [← h1, ← h2, ← h3, q2, q3] at h
    cases acc with
    | nil => exact h.yes rfl
    | cons x l => exact h.no rfl
  have next : ∀ i', i = i' + 1 → e' = false → R [.ptr 0 0, .int .i64 d, .ptr 1 0, .ptr 2 0, .int .i64 (IntKind.i64.wrap ((i : Int) - 1))] (blRN r z0 z1 c0 c1 z2 z4 c2 c4 (tB (tB b')) (e' || tE b' || tE (tB b')) (acc ++ [⟨tV b', tV (tB b')⟩])) := fun i' q1 q2 => by
    subst q1; subst q2
    obtain ⟨s1, s2, s3⟩ := a_step i' b'
    have ew : IntKind.i64.wrap (((i' + 1 : Nat) : Int) - 1) = (i' : Int) := by rw [wrap_id'] <;> omega
    rw [ew]
    refine hR (i', tB (tB b'), (false || tE b' || tE (tB b')), acc ++ [⟨tV b', tV (tB b')⟩]) ⟨?_, ?_, ?_, ?_⟩ (by dsimp only; omega)
    · dsimp only
      rw [List.append_assoc]
      show acc ++ (⟨tV b', tV (tB b')⟩ :: aL i' (tB (tB b')) (false || tE b' || tE (tB b'))) = _
      rw [← s1, h1]
    · dsimp only; rw [← s2, h2]
    · dsimp only; rw [← s3, h3]
    · dsimp only; rw [List.length_append]; simp only [List.length_cons, List.length_nil]; omega
  have z := a_zero b' e'
  have y := a_bad i b'
  have hmx : maxSl = 140737488355328 := rfl
  cases acc with
  | nil =>
    refine Eq.mpr (vcRNode0 j d r i z0 z1 c0 c1 b' z2 z4 c2 c4 e' _) ⟨fun q => ⟨fun q2 => Rq.mk (show 1 * 32 ≤ maxSl by decide) ?_, fun q2 => ?_⟩, fun q => ?_⟩
    · have q := of_decide_eq_true q
      exact next (i - 1) (by omega) (by simpa using q2)
    · have q2 : e' = true := by simpa using q2
      subst q2
      exact fin y.1 y.2.1 y.2.2
    · have q := of_decide_eq_false q
      obtain rfl : i = 0 := by omega
      exact fin z.1 z.2.1 z.2.2
  | cons x l =>
    refine Eq.mpr (vcRNode1 j d r i z0 z1 c0 c1 b' z2 z4 c2 c4 e' (x :: l) _) ⟨fun q => ⟨fun q2 => Rq.mk ?_ ?_, fun q2 => ?_⟩, fun q => ?_⟩
    · simp only [List.length_cons, List.length_nil] at h4 ⊢; omega
    · have q := of_decide_eq_true q
      exact next (i - 1) (by omega) (by simpa using q2)
    · have q2 : e' = true := by simpa using q2
      subst q2
      exact fin y.1 y.2.1 y.2.2
    · have q := of_decide_eq_false q
      obtain rfl : i = 0 := by omega
      exact fin z.1 z.2.1 z.2.2
theorem rNode_of (k : Nat) (hn : Holds 23 (conRNds k)) : Holds 50 (conRNode k) := by
  intro args hp ans hc
  unfold conRNode at hc
  split at hc
  case h_2 => cases hc
  rename_i d b r e
  injection hc with hc
  subst hc
  refine fun_meets1 (AllH.tok (.cons rNum_holds (by kernel_rfl) (.cons rTxt_holds (by kernel_rfl) (.cons leaf_holds (by kernel_rfl) (.cons hn (by kernel_rfl) .nil))))) [.as, .as, .as, .row .attr, .as, .row .node] lsRNode (by kernel_rfl) (by kernel_rfl) (rNode_sum k) fun hpre => Eq.mpr (vcRNodeF k d r b e _) ?_
  obtain ⟨p1, p2, p3, p4, p5⟩ := hpre _ rfl
  have sp := rNode_sp (rNds k (d + 1)) b r e
  have ew : IntKind.i64.wrap (d + 1) = d + 1 := by rw [wrap_id'] <;> omega
  rw [ew]
  have hr := nV_range (show (0 : Int) ≤ 12 by decide) (tB (nB 2 (nB 3 b)))
  refine ⟨fun h => ?_, fun h => Rq.mk hr ⟨fun h1 => Rq.mk ⟨by omega, by omega, by omega, by omega, by omega⟩ ?_, fun h1 => Rq.mk ⟨by omega, by omega, by omega, by omega, by omega⟩ ?_⟩⟩
  · have h : (nV 3 b == 2 || nV 3 b == 3) = true := h
    rw [if_pos h] at sp
    rw [sp]
    exact qfin rfl rfl rfl rfl
  · rw [if_neg (by rw [show (nV 3 b == 2 || nV 3 b == 3) = false from h]; decide)] at sp
    rw [sp]
    have h1 := List.eq_nil_of_length_eq_zero (of_decide_eq_true h1)
    refine qfin rfl ?_ rfl rfl
    show _ = [AV.agg [_, _, _, _, _, _]]
    rw [h1]; rfl
  · rw [if_neg (by rw [show (nV 3 b == 2 || nV 3 b == 3) = false from h]; decide)] at sp
    rw [sp]
    exact qfin rfl rfl rfl rfl
theorem rNds_sum (k : Nat) : SumOK (cxRNds k) (LL Tryz.f23 [lsRNds k]) Tryz.f23.ntmps (loopAt Tryz.f23 0).1 (loopAt Tryz.f23 0).2 (lsRNds k) := by
  intro vs bs K hs
  unfold lsRNds at hs
  simp only at hs
  split at hs
  case h_2 => exact hs.elim
  rename_i d n i b r e out
  obtain ⟨⟨rfl, ho, hn0, hn, hr0, hr, hb⟩, h⟩ := hs
  have : out = [] := List.eq_nil_of_length_eq_zero ho
  subst this
  obtain ⟨n, rfl⟩ := Int.eq_ofNat_of_zero_le hn0
  rw [Int.toNat_natCast] at h
  have hroom := rNode_room (rNds_room k (d + 1))
  have hst := fun (s : RS) (q : (rNode (rNds k (d + 1)) s).2.bad = false) => rNode_sticky (fun s q => rNds_sticky k (d + 1) s q) q
  generalize hf : rNode (rNds k (d + 1)) = f at h hroom hst
  refine sum_rec (σ := Nat × RS × List Nd) (fun s => [.ptr 0 0, .int .i64 d, .own 1 0, .int .i64 n, .int .i64 (s.1 : Nat)]) (fun s => [.box [.str s.2.1.b, .int .i64 s.2.1.room, .bool s.2.1.bad], .rowb 0 .node s.2.2]) (fun s => s.1 ≤ n ∧ s.2.2 ++ (rMany f (n - s.1) s.2.1).1 = (rMany f n ⟨b, r, e⟩).1 ∧ (rMany f (n - s.1) s.2.1).2 = (rMany f n ⟨b, r, e⟩).2 ∧ 0 ≤ s.2.1.room ∧ s.2.1.room ≤ 300 ∧ s.2.2.length ≤ s.1 ∧ (s.2.1.bad = false → (42 - d).toNat < k ∧ 1 ≤ d ∧ d ≤ 41)) (fun s => n - s.1) ?_ (0, ⟨b, r, e⟩, []) ⟨Nat.zero_le _, rfl, rfl, hr0, hr, Nat.le_refl _, hb⟩
  rintro ⟨i, ⟨b', r', e'⟩, acc⟩ ⟨h1, h2, h3, h4, h5, h6, h7⟩ R hR
  dsimp only at h1 h2 h3 h4 h5 h6 h7 hR ⊢
  have fin : rMany f (n - i) ⟨b', r', e'⟩ = ([], ⟨b', r', e'⟩) → K (.exit 0) [.ptr 0 0, .own 1 0] [.box [.str b', .int .i64 r', .bool e'], .rowb 0 .node acc] := fun q => by
    rw [q] at h2 h3
    rw [List.append_nil] at h2
    rw [← h2, ← h3] at h
    exact h
  refine Eq.mpr (vcRNdsB k d r' n i b' e' acc _) ⟨fun q => ⟨fun q2 => ?_, fun q2 => fin ?_⟩, fun q => fin ?_⟩
  · have q := of_decide_eq_true q
    have q2 : e' = false := by simpa using q2
    subst q2
    obtain ⟨g1, g2, g3⟩ := h7 rfl
    simp only [nd_eta]
    rw [hf]
    obtain ⟨c, hc⟩ : ∃ c, n - i = c + 1 := ⟨n - i - 1, by omega⟩
    have hstep : rMany f (n - i) ⟨b', r', false⟩ = ((f ⟨b', r', false⟩).1 :: (rMany f c (f ⟨b', r', false⟩).2).1, (rMany f c (f ⟨b', r', false⟩).2).2) := by
      rw [hc, rMany, if_neg (show ¬ (RS.mk b' r' false).bad = true from Bool.false_ne_true)]
    rw [hstep] at h2 h3
    have hm := hroom ⟨b', r', false⟩ h4
    have hmx : maxSl = 140737488355328 := rfl
    refine Rq.mk ⟨g1, h4, h5, g2, g3⟩ (Rq.mk ?_ ?_)
    · simp only [List.length_cons, List.length_nil]; omega
    · have ew : IntKind.i64.wrap ((i : Int) + 1) = ((i + 1 : Nat) : Int) := by rw [wrap_id'] <;> omega
      rw [ew]
      refine hR (i + 1, (f ⟨b', r', false⟩).2, acc ++ [(f ⟨b', r', false⟩).1]) ⟨?_, ?_, ?_, hm.1, ?_, ?_, fun _ => ⟨g1, g2, g3⟩⟩ (by dsimp only; omega)
      · dsimp only; omega
      · dsimp only
        rw [show n - (i + 1) = c by omega, List.append_assoc]
        exact h2
      · dsimp only
        rw [show n - (i + 1) = c by omega]
        exact h3
      · have := hm.2
        dsimp only at this ⊢; omega
      · dsimp only; rw [List.length_append]; simp only [List.length_cons, List.length_nil]; omega
  · have q2 : e' = true := by simpa using q2
    subst q2
    cases n - i with
    | zero => rfl
    | succ c => rw [rMany, if_pos rfl]
  · have q := of_decide_eq_false q
    rw [show n - i = 0 by omega]; rfl
theorem rNds_lt : ∀ k, Holds 23 (conRNds k)
  | 0 => by
    intro args hp ans hc
    unfold conRNds at hc
    split at hc
    case h_2 => cases hc
    injection hc with hc
    subst hc
    intro F I w vals hH hv hpre
    exact absurd (hpre _ rfl).1 (Nat.not_lt_zero _)
  | k + 1 => by
    intro args hp ans hc
    unfold conRNds at hc
    split at hc
    case h_2 => cases hc
    rename_i d b r e
    injection hc with hc
    subst hc
    refine fun_meets1 (AllH.tok (.cons rNum_holds (by kernel_rfl) (.cons (rNode_of k (rNds_lt k)) (by kernel_rfl) .nil))) [.own .node] (lsRNds k) (by kernel_rfl) (by kernel_rfl) (rNds_sum k) fun hpre => Eq.mpr (vcRNdsF k d r b e _) ?_
    obtain ⟨p1, p2, p3, p4, p5⟩ := hpre _ rfl
    have hn := nV_range p2 b
    have ew : IntKind.i64.wrap (r - nV r b) = r - nV r b := by rw [wrap_id'] <;> omega
    have sp : rNds (k + 1) d ⟨b, r, e⟩ = rMany (rNode (rNds k (d + 1))) (nV r b).toNat ⟨nB r b, r - nV r b, (e || nE r b) || decide (d > 41)⟩ := by
      rw [rNds]
      unfold rHead
      rw [rNum_sp]
    rw [ew, sp]
    refine ⟨fun h => Rq.mk ⟨rfl, rfl, hn.1, by omega, by omega, by omega, fun q => (nomatch q)⟩ ?_, fun h => Rq.mk ⟨rfl, rfl, hn.1, by omega, by omega, by omega, fun _ => ?_⟩ ?_⟩
    · rw [h, Bool.or_true]
      exact qfin rfl rfl rfl rfl
    · have h := of_decide_eq_false h
      exact ⟨by omega, by omega, by omega⟩
    · rw [h, Bool.or_false]
      exact qfin rfl rfl rfl rfl
def conRead : Con := conP [.str] fun (b : ByteArray) => { pre := some (rdPre b), res := .tup [.row .node (rdL b), .int .i64 (rdE b)] }
theorem read_holds : Holds 9 conRead := conP_holds fun b => by
  rcases (show ∃ w : ByteArray, w = b from ⟨_, rfl⟩) with ⟨b, rfl⟩
  refine fun_meets0 (AllH.tok (.cons (rNds_lt 43) (by kernel_rfl) (.cons chk_holds (by kernel_rfl) .nil))) [.row .node, .as] (by kernel_rfl) (by kernel_rfl) fun hpre => Eq.mpr (vcReadF b _) ?_
  have hf : (rdS b).2.bad = false → (rdS b).2.b.size = 0 → fineNds (rdS b).1 := hpre _ rfl
  show Rq _ (Br (rdS b).2.bad _ (Br (!eqS (rdS b).2.b (ByteArray.mk (Array.mk []))) _ (Rq (fineNds (rdS b).1) (Br (checkS (rdS b).1 != 0) _ _))))
  have no : rdOK b = false → FinQ { pre := some (rdPre b), res := .tup [.row .node (rdL b), .int .i64 (rdE b)] } [AV.row Ty.node [], AV.int .i64 4] [] [] := fun h => by
    refine qfin rfl ?_ rfl rfl
    show _ = [AV.row Ty.node (rdL b), AV.int .i64 (rdE b)]
    unfold rdL rdE; rw [h]; rfl
  refine Rq.mk ⟨by decide, by decide, by decide, by decide, by decide⟩ ⟨fun h => no ?_, fun h => ⟨fun h1 => no ?_, fun h1 => Rq.mk (hf h ?_) ⟨fun h2 => no ?_, fun h2 => ?_⟩⟩⟩
  · unfold rdOK; rw [h]; rfl
  · have h1 : eqS (rdS b).2.b ⟨#[]⟩ = false := by rw [← Bool.not_eq_true']; exact h1
    unfold rdOK; rw [h1, Bool.and_false]; rfl
  · have h1 : eqS (rdS b).2.b ⟨#[]⟩ = true := by rw [← Bool.not_eq_false']; exact h1
    exact eqS_nil.1 h1
  · have h2 : (checkS (rdS b).1 == 0) = false := by simpa using h2
    unfold rdOK; rw [h2, Bool.and_false]
  · have h1 : eqS (rdS b).2.b ⟨#[]⟩ = true := by rw [← Bool.not_eq_false']; exact h1
    have h2 : (checkS (rdS b).1 == 0) = true := by simpa using h2
    have ok : rdOK b = true := by unfold rdOK; rw [h, h1, h2]; rfl
    refine qfin rfl ?_ rfl rfl
    show _ = [AV.row Ty.node (rdL b), AV.int .i64 (rdE b)]
    unfold rdL rdE; rw [ok]; rfl
end Go.Proofs.YtpbpabadbipfdaaGreatDoor.AX
end
section
namespace Go.Proofs.YtpbpabadbipfdaaGreatDoor.AXP
open Go Go.Proofs.YtpbpabadbipfdaaGreatDoor.AX
mutual
/-- How much nodes hold. -/
def wtNd : Nd → Nat
  | ⟨_, _, _, a, _, c⟩ => 1 + a.length + wtNds c
def wtNds : List Nd → Nat
  | [] => 0
  | x :: l => wtNd x + wtNds l
end
def wtMx : Nat := 100000000000
def wtEd (x : Ed) : Nat := 1 + x.way.length + wtNd x.old + wtNd x.new
def wtEds : List Ed → Nat
  | [] => 0
  | x :: l => wtEd x + wtEds l
theorem wtNd_eq (n : Nd) : wtNd n = 1 + n.attrs.length + wtNds n.kids := by cases n; rw [wtNd]
theorem wtNds_app : ∀ (a b : List Nd), wtNds (a ++ b) = wtNds a + wtNds b
  | [], b => by simp [wtNds]
  | x :: a, b => by rw [List.cons_append, wtNds, wtNds, wtNds_app a b]; omega
theorem wtNd_pos (n : Nd) : 1 ≤ wtNd n := by rw [wtNd_eq]; omega
theorem wt_len : ∀ (l : List Nd), l.length ≤ wtNds l
  | [] => Nat.zero_le _
  | x :: l => by have := wt_len l; have := wtNd_pos x; rw [wtNds, List.length_cons]; omega
theorem wt_mem : ∀ {l : List Nd} {x : Nd}, x ∈ l → wtNd x ≤ wtNds l
  | y :: l, x, h => by
    rw [wtNds]
    cases h with
    | head => omega
    | tail _ h => have := wt_mem h; omega
theorem wt_take_drop (l : List Nd) (i : Nat) : wtNds (l.take i) + wtNds (l.drop i) = wtNds l := by rw [← wtNds_app, List.take_append_drop]
theorem wt_one (n : Nd) : wtNds [n] = wtNd n := by simp [wtNds]
end Go.Proofs.YtpbpabadbipfdaaGreatDoor.AXP
end
section
namespace Go.Proofs.YtpbpabadbipfdaaGreatDoor.AXP
open Go Go.Proofs.YtpbpabadbipfdaaGreatDoor.AX
def attBad1 (a : At) : Bool := decide ((a.1.size : Int) > 100) || decide ((a.2.size : Int) > 2000)
def attBad (l : List At) : Bool := l.any attBad1
def topOf (d : Int) (len : Nat) (n : Int) (r : Bool × Int) : Bool × Int := if (decide (d > 60) || decide ((len : Int) > 500)) = true then (true, n) else if r.1 = true then (true, r.2) else (decide (r.2 < 0), r.2)
mutual
def lgNd (d : Int) : Nd → Int → Bool × Int
  | ⟨_, _, nm, a, t, c⟩, n => if (decide (n - 1 < 0) || decide ((a.length : Int) > 40) || decide ((t.size : Int) > 5000) || decide ((nm.size : Int) > 100)) = true then (true, n - 1) else if attBad a = true then (true, n - 1 - (t.size : Int).tdiv 16 - a.length) else topOf (d + 1) c.length (n - 1 - (t.size : Int).tdiv 16 - a.length) (lgLoop (d + 1) c (n - 1 - (t.size : Int).tdiv 16 - a.length))
def lgLoop (d : Int) : List Nd → Int → Bool × Int
  | [], n => (false, n)
  | x :: l, n => if (lgNd d x n).1 = true then (true, (lgNd d x n).2) else lgLoop d l (lgNd d x n).2
end
def lgNds (d : Int) (l : List Nd) (n : Int) : Bool × Int := topOf d l.length n (lgLoop d l n)
def lgB (d : Int) (l : List Nd) (n : Int) : Bool := (lgNds d l n).1
def lgN (d : Int) (l : List Nd) (n : Int) : Int := (lgNds d l n).2
def lpB (d : Int) (l : List Nd) (n : Int) : Bool := (lgLoop d l n).1
def lpN (d : Int) (l : List Nd) (n : Int) : Int := (lgLoop d l n).2
def largeM (m : Int) (l : List Nd) : Bool := lgB 1 l m
def largeB (l : List Nd) : Bool := lgB 1 l 250
end Go.Proofs.YtpbpabadbipfdaaGreatDoor.AXP
namespace Go.Proofs.YtpbpabadbipfdaaGreatDoor.AX
open Go AXP
noncomputable def conLargeLt (k : Nat) : Con := fun args hp => match args, hp with
  | [x, .ptr 0 0, .int .i64 d], [.box [.int .i64 n]] => (rowOf .node x).bind fun l => some { pre := some (szNds l < k ∧ 0 ≤ d ∧ d ≤ 61 ∧ -354 ≤ n ∧ n ≤ 2000), res := .bool (lgB d l n), hp := [.box [.int .i64 (lgN d l n)]] }
  | _, _ => none
noncomputable def cxLarge (k : Nat) : Cx := cxT (tabLook [(12, conLargeLt k)])
noncomputable def lsLarge (k : Nat) : LS where
  keep := [(1, .as), (2, .as), (18, .as), (19, .as), (20, .as)]
  left := [(1, .as), (6, .as)]
  sum := fun vs bs K => match vs, bs with
    | [.ptr 0 0, .int .i64 d, .row .node l, .int .i64 m, .int .i64 i], [.box [.int .i64 n]] => Rq (m = l.length ∧ i = 0 ∧ l.length ≤ maxSl ∧ szNds l < k + 1 ∧ 0 ≤ d ∧ d ≤ 60 ∧ -354 ≤ n ∧ n ≤ 2000)
      (Br (lpB d l n) (K .ret [.ptr 0 0, .bool true] [.box [.int .i64 (lpN d l n)]]) (K (.exit 0) [.ptr 0 0, .any] [.box [.int .i64 (lpN d l n)]]))
    | _, _ => False
def lsLarge2 : LS where
  keep := [(1, .as), (2, .as), (8, .as), (18, .as), (19, .as), (20, .as), (72, .as), (73, .as), (74, .as)]
  left := [(1, .as), (2, .as), (8, .as), (18, .as), (19, .as), (20, .as), (6, .as)]
  sum := fun vs bs K => match vs, bs with
    | [.ptr 0 0, .int .i64 d, .ptr 1 0, .row .node l, .int .i64 m, .int .i64 i, .row .attr a, .int .i64 ma, .int .i64 j], [.box [.int .i64 n], .box [.int .i64 b0, .int .i64 b1, .str b2, .row .attr b3, .str b4, .row .node b5]] => Rq (ma = a.length ∧ j = 0 ∧ a.length ≤ maxSl)
      (Br (attBad a) (K .ret [.ptr 0 0, .int .i64 d, .ptr 1 0, .row .node l, .int .i64 m, .int .i64 i, .bool true] [.box [.int .i64 n], .box [.int .i64 b0, .int .i64 b1, .str b2, .row .attr b3, .str b4, .row .node b5]]) (K (.exit 2) [.ptr 0 0, .int .i64 d, .ptr 1 0, .row .node l, .int .i64 m, .int .i64 i, .any] [.box [.int .i64 n], .box [.int .i64 b0, .int .i64 b1, .str b2, .row .attr b3, .str b4, .row .node b5]]))
    | _, _ => False
def conLarge : Con := fun args hp => match args, hp with
  | [x, .ptr 0 0, .int .i64 d], [.box [.int .i64 n]] => (rowOf .node x).bind fun l => some { pre := some (0 ≤ d ∧ d ≤ 61 ∧ -354 ≤ n ∧ n ≤ 2000), res := .bool (lgB d l n), hp := [.box [.int .i64 (lgN d l n)]] }
  | _, _ => none
end Go.Proofs.YtpbpabadbipfdaaGreatDoor.AX
end
