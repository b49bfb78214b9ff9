/- What the code of this statement does, over values that stand for data: an executor of the model's code, that it is sound, and contracts of functions: part 5. No condition is added to the statement. -/
import Derived.Test.YtnhipiedjekkpaaGreatDoorMD4
set_option linter.unusedVariables false
set_option linter.unusedSimpArgs false
section
namespace Go.Proofs.YtnhipiedjekkpaaGreatDoor.AXP
open Go Go.Proofs.YtnhipiedjekkpaaGreatDoor.AX
theorem bigB_no {s : ByteArray} (h : bigB s = false) : s.size ≤ 65536 := by have := of_decide_eq_false h; omega
theorem longA_no {a : At} (h : longA a = false) : a.name.size ≤ 65536 ∧ a.value.size ≤ 65536 := by
  unfold longA at h
  rw [Bool.or_eq_false_iff] at h
  exact ⟨bigB_no h.1, bigB_no h.2⟩
theorem ixL_neg {α : Type} {p : α → Bool} : ∀ (l : List α) (i : Nat), l.any p = false → ixL p i l = -1
  | [], _, _ => rfl
  | a :: l, i, h => by
    rw [List.any_cons, Bool.or_eq_false_iff] at h
    rw [ixL, if_neg (by rw [h.1]; decide), ixL_neg l _ h.2]
theorem ixL_pos {α : Type} {p : α → Bool} : ∀ (l : List α) (i : Nat), l.any p = true → 0 ≤ ixL p i l
  | [], _, h => by cases h
  | a :: l, i, h => by
    rw [ixL]
    split
    · omega
    · rename_i h1
      rw [List.any_cons, show p a = false by simpa using h1, Bool.false_or] at h
      exact ixL_pos l _ h
theorem zeroB_iff {n : Nd} : zeroB n = true ↔ n = zN := by
  unfold zeroB
  rw [eql_iff eqNd_iff]
  simp
theorem atsB_ok {n : Nd} (h : atsB n = true) : n = { zN with attrs := n.attrs } ∧ n.attrs.length ≤ 12 ∧ ∀ a ∈ n.attrs, a.name.size ≤ 65536 ∧ a.value.size ≤ 65536 := by
  unfold atsB at h
  simp only [Bool.and_eq_true, decide_eq_true_eq, Bool.not_eq_true'] at h
  obtain ⟨⟨h1, h2⟩, h3⟩ := h
  have h1 := zeroB_iff.1 h1
  refine ⟨?_, by omega, fun a ha => longA_no ?_⟩
  · obtain ⟨k, s, m, a, t, c⟩ := n
    unfold zN at h1 ⊢
    injection h1 with e1 e2 e3 e4 e5 e6
    subst e1 e2 e3 e5 e6
    rfl
  · have := List.any_eq_false.1 h3 a ha
    simpa using this
theorem wdsB_ok {n : Nd} (h : wdsB n = true) : n = { zN with text := n.text } ∧ n.text.size ≤ 65536 := by
  unfold wdsB at h
  simp only [Bool.and_eq_true, Bool.not_eq_true'] at h
  have h1 := zeroB_iff.1 h.1
  refine ⟨?_, bigB_no h.2⟩
  obtain ⟨k, s, m, a, t, c⟩ := n
  unfold zN at h1 ⊢
  injection h1 with e1 e2 e3 e4 e5 e6
  subst e1 e2 e3 e4 e6
  rfl
theorem plain_ok {x : Ed} (h : plainB x = true) : PlainP x ∧ (x.what = 1 → checkS [x.new] = 0) ∧ (x.what = 2 → checkS [x.old] = 0) := by
  unfold plainB at h
  simp only [Bool.and_eq_true, decide_eq_true_eq, Bool.not_eq_true'] at h
  obtain ⟨⟨⟨⟨⟨h1, h2⟩, h3⟩, h4⟩, h5⟩, h6⟩ := h
  have ha : ∀ i ∈ x.way, 0 ≤ i ∧ i ≤ 300 := fun i hi => by
    have := List.any_eq_false.1 h5 i hi
    unfold oddI at this
    simp only [Bool.or_eq_true, decide_eq_true_eq, not_or] at this
    omega
  unfold partB at h6
  by_cases w1 : x.what = 1
  · rw [if_pos w1, Bool.and_eq_true] at h6
    refine ⟨⟨h1, h2, by omega, by omega, ha, fun _ => zeroB_iff.1 h6.1, fun e => by omega, fun e => by omega, fun e => by omega⟩, fun _ => ?_, fun e => by omega⟩
    have := h6.2
    unfold rig1 at this
    simpa using this
  rw [if_neg w1] at h6
  by_cases w2 : x.what = 2
  · rw [if_pos w2, Bool.and_eq_true] at h6
    refine ⟨⟨h1, h2, by omega, by omega, ha, fun e => by omega, fun _ => zeroB_iff.1 h6.1, fun e => by omega, fun e => by omega⟩, fun e => by omega, fun _ => ?_⟩
    have := h6.2
    unfold rig1 at this
    simpa using this
  rw [if_neg w2] at h6
  by_cases w3 : x.what = 3
  · rw [if_pos w3, Bool.and_eq_true] at h6
    exact ⟨⟨h1, h2, by omega, by omega, ha, fun e => by omega, fun e => by omega, fun _ => ⟨atsB_ok h6.1, atsB_ok h6.2⟩, fun e => by omega⟩, fun e => by omega, fun e => by omega⟩
  rw [if_neg w3] at h6
  have w4 : x.what = 4 := by omega
  rw [if_pos w4, Bool.and_eq_true] at h6
  exact ⟨⟨h1, h2, by omega, by omega, ha, fun e => by omega, fun e => by omega, fun e => by omega, fun _ => ⟨wdsB_ok h6.1, wdsB_ok h6.2⟩⟩, fun e => by omega, fun e => by omega⟩
/-! ### Lists of texts -/
theorem jn_eq : ∀ {l : List ByteArray}, jnOK l = true → jnT l = txsL l ∧ ∀ s ∈ l, s.size ≤ 65536
  | [], _ => ⟨rfl, fun s hs => (nomatch hs)⟩
  | s :: l, h => by
    unfold jnOK at h
    rw [List.all_cons, Bool.and_eq_true] at h
    have h1 : bigB s = false := by simpa using h.1
    obtain ⟨e1, e2⟩ := jn_eq (l := l) h.2
    refine ⟨by rw [jnT, if_neg (by rw [h1]; decide), txsL, e1], fun x hx => ?_⟩
    cases hx with
    | head => exact bigB_no h1
    | tail _ hx => exact e2 x hx
theorem jn_all {l : List ByteArray} (h : ∀ s ∈ l, s.size ≤ 65536) : jnOK l = true := by
  unfold jnOK
  refine List.all_eq_true.2 fun s hs => ?_
  have := h s hs
  unfold bigB
  rw [decide_eq_false (by omega)]; rfl
theorem txtL_len6 {s : ByteArray} (h : s.size ≤ 65536) : (txtL (kb s)).length ≤ s.size + 7 := by
  unfold txtL
  have := numL_le (n := (kb s).length) (by rw [kb_size]; omega)
  rw [List.length_append, kb_size] at *; omega
theorem jnT_le : ∀ (l : List ByteArray), (jnT l).length ≤ l.length * 65543
  | [] => Nat.zero_le _
  | s :: l => by
    rw [jnT, List.length_cons]
    split
    · exact Nat.zero_le _
    · rename_i h
      have := txtL_len6 (bigB_no (s := s) (by simpa using h))
      have := bigB_no (s := s) (by simpa using h)
      have := jnT_le l
      rw [List.length_append]; omega
theorem lsS_eq {l : List ByteArray} (hl : l.length ≤ 1000) (h : ∀ s ∈ l, s.size ≤ 65536) : lsE l = 0 ∧ lsS l = bk (lstL l) := by
  have e : lsE l = 0 := by
    unfold lsE jnE
    rw [if_neg (by omega), if_pos (jn_all h)]
  unfold lsS
  rw [if_pos e]
  exact ⟨e, rfl⟩
theorem lstL_le {l : List ByteArray} (hl : l.length ≤ 1000) (h : ∀ s ∈ l, s.size ≤ 65536) : (lstL l).length ≤ 7 + l.length * 65543 := by
  have := jnT_le l
  rw [(jn_eq (jn_all h)).1] at this
  have := numL_le (n := l.length) (by omega)
  unfold lstL
  rw [List.length_append]; omega
theorem ats_ls {l : List At} (hl : l.length ≤ 500) (h : ∀ a ∈ l, a.name.size ≤ 65536 ∧ a.value.size ≤ 65536) : lsS (flA l) = bk (lstL (flA l)) ∧ (lstL (flA l)).length ≤ 7 + 2 * l.length * 65543 := by
  have := lstL_le (l := flA l) (by rw [fl_len]; omega) (fl_all h)
  rw [fl_len] at this
  exact ⟨(lsS_eq (by rw [fl_len]; omega) (fl_all h)).2, this⟩
end Go.Proofs.YtnhipiedjekkpaaGreatDoor.AXP
namespace Go.Proofs.YtnhipiedjekkpaaGreatDoor.AX
open Go AXP
set_option maxRecDepth 100000
theorem bigD_holds : Holds 102 conBigD := conP_holds fun s => by
  rcases (show ∃ w : ByteArray, w = s from ⟨_, rfl⟩) with ⟨s, rfl⟩
  exact fun_meets0 tok0 [] (by kernel_rfl) (by kernel_rfl) fun _ => Eq.mpr (vcBigDF s _) ⟨fun _ => qfin rfl rfl rfl rfl⟩
theorem at1D_holds : Holds 101 conAt1D := conP_holds fun a => by
  rcases (show ∃ w : At, w = a from ⟨_, rfl⟩) with ⟨a, rfl⟩
  refine fun_meets0 (AllH.tok (.cons bigD_holds (by kernel_rfl) .nil)) [] (by kernel_rfl) (by kernel_rfl) fun _ => Eq.mpr (vcAt1DF a _) ⟨fun h => qfin rfl ?_ rfl rfl, fun h => qfin rfl ?_ rfl rfl⟩
  · show [AV.bool true] = [AV.bool (longA a)]
    unfold longA; rw [show bigB a.name = true from h]; rfl
  · show [AV.bool _] = [AV.bool (longA a)]
    unfold longA; rw [show bigB a.name = false from h]; rfl
theorem ixA_sum : SumOK cxIxA (LL Tryz.f122 [lsIxA]) Tryz.f122.ntmps (loopAt Tryz.f122 0).1 (loopAt Tryz.f122 0).2 lsIxA := by
  intro vs bs K hs
  unfold lsIxA at hs
  simp only at hs
  split at hs
  case h_2 => exact hs.elim
  rename_i l f m i
  rcases (show ∃ w : List At, w = l from ⟨_, rfl⟩) with ⟨l, rfl⟩
  obtain ⟨⟨rfl, rfl, rfl, hm⟩, h⟩ := hs
  refine sum_rec (σ := Nat) (fun i => [.row .attr l, .fn 101 [], .int .i64 l.length, .int .i64 (i : Nat)]) (fun _ => []) (fun i => i ≤ l.length ∧ (l.drop i).any longA = l.any longA ∧ ixL longA i (l.drop i) = ixL longA 0 l) (fun i => l.length - i) ?_ 0 ⟨Nat.zero_le _, rfl, rfl⟩
  rintro i ⟨hi, ha, he⟩ R hR
  refine Eq.mpr (vcIxAB l l.length i _) ⟨fun h1 => ?_, fun h1 => ?_⟩
  · have hlt : i < l.length := by have := of_decide_eq_true h1; omega
    rw [rd_at hlt]
    rw [List.drop_eq_getElem_cons hlt, List.any_cons] at ha
    rw [List.drop_eq_getElem_cons hlt, ixL] at he
    refine Rq.mk ⟨by omega, by omega⟩ ⟨fun h2 => ?_, fun h2 => ?_⟩
    · have h2 : longA l[i] = true := h2
      rw [if_pos h2] at he
      rw [h2, Bool.true_or] at ha
      rw [he]
      exact h.yes ha.symm
    · have h2 : longA l[i] = false := h2
      rw [h2, Bool.false_or] at ha
      rw [if_neg (by rw [h2]; decide)] at he
      rw [wrap_succ hlt hm]
      exact hR (i + 1) ⟨hlt, ha, he⟩ (by omega)
  · have hge : l.length ≤ i := by have := of_decide_eq_false h1; omega
    rw [List.drop_of_length_le hge] at ha
    exact h.no ha.symm
theorem ixA_holds : Holds 122 conIxA := conP_holds fun l _ => by
  rcases (show ∃ w : List At, w = l from ⟨_, rfl⟩) with ⟨l, rfl⟩
  refine fun_meets1 (AllH.tok (.cons at1D_holds (by kernel_rfl) .nil)) [] lsIxA (by kernel_rfl) (by kernel_rfl) ixA_sum fun hpre => Eq.mpr (vcIxAF l _) ?_
  refine ⟨fun hm => Rq.mk ⟨rfl, rfl, rfl, hm⟩ ⟨fun h => qfin rfl rfl rfl rfl, fun h => qfin rfl ?_ rfl rfl⟩⟩
  show _ = [AV.int .i64 (ixL longA 0 l)]
  rw [ixL_neg l 0 h]
theorem cfA_holds : Holds 100 conCfA := conP_holds fun l _ => by
  rcases (show ∃ w : List At, w = l from ⟨_, rfl⟩) with ⟨l, rfl⟩
  refine fun_meets0 (AllH.tok (.cons ixA_holds (by kernel_rfl) .nil)) [] (by kernel_rfl) (by kernel_rfl) fun hpre => Eq.mpr (vcCfAF l _) ?_
  refine (qfin rfl ?_ rfl rfl)
  show _ = [AV.bool (l.any longA)]
  cases h : l.any longA with
  | true => rw [decide_eq_true (show ixL longA 0 l ≥ 0 from ixL_pos l 0 h)]
  | false => rw [ixL_neg l 0 h]; rfl
theorem zeroD_holds : Holds 79 conZeroD := conP_holds fun n => by
  rcases (show ∃ w : Nd, w = n from ⟨_, rfl⟩) with ⟨n, rfl⟩
  refine fun_meets0 (AllH.tok (.cons same_holds (by kernel_rfl) .nil)) [] (by kernel_rfl) (by kernel_rfl) fun _ => Eq.mpr (vcZeroDF n _) ?_
  rw [nd_eta]
  exact qfin rfl rfl rfl rfl
theorem rigD_holds : Holds 80 conRigD := conP_holds fun n => by
  rcases (show ∃ w : Nd, w = n from ⟨_, rfl⟩) with ⟨n, rfl⟩
  refine fun_meets0 (AllH.tok (.cons chk_holds (by kernel_rfl) .nil)) [] (by kernel_rfl) (by kernel_rfl) fun hpre => Eq.mpr (vcRigDF n _) ?_
  rw [nd_eta]
  exact Rq.mk (hpre _ rfl) (qfin rfl rfl rfl rfl)
theorem atsD_holds : Holds 83 conAtsD := conP_holds fun n => by
  rcases (show ∃ w : Nd, w = n from ⟨_, rfl⟩) with ⟨n, rfl⟩
  refine fun_meets0 (AllH.tok (.cons cfA_holds (by kernel_rfl) (.cons zeroD_holds (by kernel_rfl) .nil))) [] (by kernel_rfl) (by kernel_rfl) fun _ => Eq.mpr (vcAtsDF n _) ?_
  refine ⟨fun _ => ⟨fun h1 => ⟨fun h2 => qfin rfl ?_ rfl rfl, fun h2 => qfin rfl ?_ rfl rfl⟩, fun h1 => qfin rfl ?_ rfl rfl⟩⟩ <;> show [AV.bool _] = [AV.bool (atsB n)]
  · unfold atsB; rw [show zeroB ⟨n.kind, n.space, n.name, [], n.text, n.kids⟩ = true from h1, show decide ((n.attrs.length : Int) ≤ 12) = true from h2]; rfl
  · unfold atsB; rw [show decide ((n.attrs.length : Int) ≤ 12) = false from h2, Bool.and_false]; rfl
  · unfold atsB; rw [show zeroB ⟨n.kind, n.space, n.name, [], n.text, n.kids⟩ = false from h1]; rfl
theorem wdsD_holds : Holds 86 conWdsD := conP_holds fun n => by
  rcases (show ∃ w : Nd, w = n from ⟨_, rfl⟩) with ⟨n, rfl⟩
  refine fun_meets0 (AllH.tok (.cons bigD_holds (by kernel_rfl) (.cons zeroD_holds (by kernel_rfl) .nil))) [] (by kernel_rfl) (by kernel_rfl) fun _ => Eq.mpr (vcWdsDF n _) ?_
  refine ⟨fun h1 => qfin rfl ?_ rfl rfl, fun h1 => qfin rfl ?_ rfl rfl⟩ <;> show [AV.bool _] = [AV.bool (wdsB n)]
  · unfold wdsB; rw [show zeroB ⟨n.kind, n.space, n.name, n.attrs, ⟨#[]⟩, n.kids⟩ = true from h1]; rfl
  · unfold wdsB; rw [show zeroB ⟨n.kind, n.space, n.name, n.attrs, ⟨#[]⟩, n.kids⟩ = false from h1]; rfl
theorem tokPlk : TOK cxPlk := AllH.tok (.cons zeroD_holds (by kernel_rfl) (.cons rigD_holds (by kernel_rfl) (.cons atsD_holds (by kernel_rfl) (.cons wdsD_holds (by kernel_rfl) .nil))))
theorem plIn_holds : Holds 44 conPlIn := conP_holds fun x => by
  rcases (show ∃ w : Ed, w = x from ⟨_, rfl⟩) with ⟨x, rfl⟩
  refine fun_meets0 tokPlk [] (by kernel_rfl) (by kernel_rfl) fun hpre => Eq.mpr (vcPlInF x _) ?_
  simp only [nd_eta]
  refine ⟨fun h1 => Rq.mk (hpre _ rfl) (qfin rfl ?_ rfl rfl), fun h1 => qfin rfl ?_ rfl rfl⟩ <;> show [AV.bool _] = [AV.bool (zeroB x.old && rig1 x.new)] <;> rw [h1] <;> rfl
theorem plOut_holds : Holds 47 conPlOut := conP_holds fun x => by
  rcases (show ∃ w : Ed, w = x from ⟨_, rfl⟩) with ⟨x, rfl⟩
  refine fun_meets0 tokPlk [] (by kernel_rfl) (by kernel_rfl) fun hpre => Eq.mpr (vcPlOutF x _) ?_
  simp only [nd_eta]
  refine ⟨fun h1 => Rq.mk (hpre _ rfl) (qfin rfl ?_ rfl rfl), fun h1 => qfin rfl ?_ rfl rfl⟩ <;> show [AV.bool _] = [AV.bool (zeroB x.new && rig1 x.old)] <;> rw [h1] <;> rfl
theorem plAts_holds : Holds 50 conPlAts := conP_holds fun x => by
  rcases (show ∃ w : Ed, w = x from ⟨_, rfl⟩) with ⟨x, rfl⟩
  refine fun_meets0 tokPlk [] (by kernel_rfl) (by kernel_rfl) fun hpre => Eq.mpr (vcPlAttrsF x _) ?_
  simp only [nd_eta]
  refine ⟨fun h1 => qfin rfl ?_ rfl rfl, fun h1 => qfin rfl ?_ rfl rfl⟩ <;> show [AV.bool _] = [AV.bool (atsB x.old && atsB x.new)] <;> rw [h1] <;> rfl
theorem plTxt_holds : Holds 53 conPlTxt := conP_holds fun x => by
  rcases (show ∃ w : Ed, w = x from ⟨_, rfl⟩) with ⟨x, rfl⟩
  refine fun_meets0 tokPlk [] (by kernel_rfl) (by kernel_rfl) fun hpre => Eq.mpr (vcPlTextF x _) ?_
  simp only [nd_eta]
  refine ⟨fun h1 => qfin rfl ?_ rfl rfl, fun h1 => qfin rfl ?_ rfl rfl⟩ <;> show [AV.bool _] = [AV.bool (wdsB x.old && wdsB x.new)] <;> rw [h1] <;> rfl
theorem kinds_meets (n : Int) (a : Ans) (hg : a.given = none) (hh : a.hp = []) (he : a.extra = []) (hs : a.same = []) (hc : okFn Tryz.f23 [.int .i64 n] [] a 0 = true) (h : (∀ p, a.pre = some p → p) → (n = 1 ∧ compsOf a.res = [AV.agg [.fn 44 [], .fn 45 [], .fn 46 []], .bool true]) ∨ (n = 2 ∧ compsOf a.res = [AV.agg [.fn 47 [], .fn 48 [], .fn 49 []], .bool true]) ∨
    (n = 3 ∧ compsOf a.res = [AV.agg [.fn 50 [], .fn 51 [], .fn 52 []], .bool true]) ∨ (n = 4 ∧ compsOf a.res = [AV.agg [.fn 53 [], .fn 54 [], .fn 55 []], .bool true]) ∨
    (¬ (1 ≤ n ∧ n ≤ 4) ∧ compsOf a.res = [AV.agg [.any, .any, .any], .bool false])) : Meets cx0 23 [.int .i64 n] [] a := by
  refine fun_meets0 tok0 [] (by kernel_rfl) hc fun hpre => Eq.mpr (vcKindsF n _) ?_
  rcases h hpre with ⟨rfl, g⟩ | ⟨rfl, g⟩ | ⟨rfl, g⟩ | ⟨rfl, g⟩ | ⟨hn, g⟩
  · exact ⟨fun q => absurd q (by decide), fun _ => ⟨fun q => absurd q (by decide), fun _ => Rq.mk (by decide) (qfin hg g.symm hh.symm he.symm)⟩⟩
  · exact ⟨fun q => absurd q (by decide), fun _ => ⟨fun q => absurd q (by decide), fun _ => Rq.mk (by decide) (qfin hg g.symm hh.symm he.symm)⟩⟩
  · exact ⟨fun q => absurd q (by decide), fun _ => ⟨fun q => absurd q (by decide), fun _ => Rq.mk (by decide) (qfin hg g.symm hh.symm he.symm)⟩⟩
  · exact ⟨fun q => absurd q (by decide), fun _ => ⟨fun q => absurd q (by decide), fun _ => Rq.mk (by decide) (qfin hg g.symm hh.symm he.symm)⟩⟩
  · exact ⟨fun _ => qfin hg g.symm hh.symm he.symm, fun q1 => ⟨fun _ => qfin hg g.symm hh.symm he.symm, fun q2 => absurd ⟨by have := of_decide_eq_false q1; omega, by have := of_decide_eq_false q2; omega⟩ hn⟩⟩
theorem kd1_holds : Holds 23 conKd1 := by
  intro args hp ans hc
  unfold conKd1 at hc
  split at hc
  · rename_i n
    injection hc with hc
    subst hc
    exact kinds_meets n _ rfl rfl rfl rfl (by kernel_rfl) fun hp => .inl ⟨hp _ rfl, rfl⟩
  · cases hc
theorem kd2_holds : Holds 23 conKd2 := by
  intro args hp ans hc
  unfold conKd2 at hc
  split at hc
  · rename_i n
    injection hc with hc
    subst hc
    exact kinds_meets n _ rfl rfl rfl rfl (by kernel_rfl) fun hp => .inr (.inl ⟨hp _ rfl, rfl⟩)
  · cases hc
theorem kd3_holds : Holds 23 conKd3 := by
  intro args hp ans hc
  unfold conKd3 at hc
  split at hc
  · rename_i n
    injection hc with hc
    subst hc
    exact kinds_meets n _ rfl rfl rfl rfl (by kernel_rfl) fun hp => .inr (.inr (.inl ⟨hp _ rfl, rfl⟩))
  · cases hc
theorem kd4_holds : Holds 23 conKd4 := by
  intro args hp ans hc
  unfold conKd4 at hc
  split at hc
  · rename_i n
    injection hc with hc
    subst hc
    exact kinds_meets n _ rfl rfl rfl rfl (by kernel_rfl) fun hp => .inr (.inr (.inr (.inl ⟨hp _ rfl, rfl⟩)))
  · cases hc
theorem kd0_holds : Holds 23 conKd0 := by
  intro args hp ans hc
  unfold conKd0 at hc
  split at hc
  · rename_i n
    injection hc with hc
    subst hc
    exact kinds_meets n _ rfl rfl rfl rfl (by kernel_rfl) fun hp => .inr (.inr (.inr (.inr ⟨hp _ rfl, rfl⟩)))
  · cases hc
theorem kindsK_holds : ∀ k, Holds 23 (conKindsK k)
  | 0 => kd0_holds
  | 1 => kd1_holds
  | 2 => kd2_holds
  | 3 => kd3_holds
  | 4 => kd4_holds
  | _ + 5 => kd0_holds
theorem oddI_holds : Holds 63 conOddI := conP_holds fun i => by
  rcases (show ∃ w : Int, w = i from ⟨_, rfl⟩) with ⟨i, rfl⟩
  refine fun_meets0 tok0 [] (by kernel_rfl) (by kernel_rfl) fun _ => Eq.mpr (vcOddIF i _) ⟨fun h => qfin rfl ?_ rfl rfl, fun h => qfin rfl ?_ rfl rfl⟩ <;> show [AV.bool _] = [AV.bool (oddI i)] <;> unfold oddI <;> rw [h] <;> rfl
theorem ixI_sum : SumOK cxIxI (LL Tryz.f90 [lsIxI]) Tryz.f90.ntmps (loopAt Tryz.f90 0).1 (loopAt Tryz.f90 0).2 lsIxI := by
  intro vs bs K hs
  unfold lsIxI at hs
  simp only at hs
  split at hs
  case h_2 => exact hs.elim
  rename_i l f m i
  rcases (show ∃ w : List Int, w = l from ⟨_, rfl⟩) with ⟨l, rfl⟩
  obtain ⟨⟨rfl, rfl, rfl, hm⟩, h⟩ := hs
  refine sum_rec (σ := Nat) (fun i => [.row .int l, .fn 63 [], .int .i64 l.length, .int .i64 (i : Nat)]) (fun _ => []) (fun i => i ≤ l.length ∧ (l.drop i).any oddI = l.any oddI ∧ ixL oddI i (l.drop i) = ixL oddI 0 l) (fun i => l.length - i) ?_ 0 ⟨Nat.zero_le _, rfl, rfl⟩
  rintro i ⟨hi, ha, he⟩ R hR
  refine Eq.mpr (vcIxIB l l.length i _) ⟨fun h1 => ?_, fun h1 => ?_⟩
  · have hlt : i < l.length := by have := of_decide_eq_true h1; omega
    rw [rd_get (t := .int) hlt]
    rw [List.drop_eq_getElem_cons hlt, List.any_cons] at ha
    rw [List.drop_eq_getElem_cons hlt, ixL] at he
    refine Rq.mk ⟨by omega, by omega⟩ ⟨fun h2 => ?_, fun h2 => ?_⟩
    · have h2 : oddI l[i] = true := h2
      rw [if_pos h2] at he
      rw [h2, Bool.true_or] at ha
      rw [he]
      exact h.yes ha.symm
    · have h2 : oddI l[i] = false := h2
      rw [h2, Bool.false_or] at ha
      rw [if_neg (by rw [h2]; decide)] at he
      rw [wrap_succ hlt hm]
      exact hR (i + 1) ⟨hlt, ha, he⟩ (by omega)
  · have hge : l.length ≤ i := by have := of_decide_eq_false h1; omega
    rw [List.drop_of_length_le hge] at ha
    exact h.no ha.symm
theorem ixI_holds : Holds 90 conIxI := conP_holds fun l _ => by
  rcases (show ∃ w : List Int, w = l from ⟨_, rfl⟩) with ⟨l, rfl⟩
  refine fun_meets1 (AllH.tok (.cons oddI_holds (by kernel_rfl) .nil)) [] lsIxI (by kernel_rfl) (by kernel_rfl) ixI_sum fun hpre => Eq.mpr (vcIxIF l _) ?_
  refine ⟨fun hm => Rq.mk ⟨rfl, rfl, rfl, hm⟩ ⟨fun h => qfin rfl rfl rfl rfl, fun h => qfin rfl ?_ rfl rfl⟩⟩
  show _ = [AV.int .i64 (ixL oddI 0 l)]
  rw [ixL_neg l 0 h]
theorem cfI_holds : Holds 62 conCfI := conP_holds fun l _ => by
  rcases (show ∃ w : List Int, w = l from ⟨_, rfl⟩) with ⟨l, rfl⟩
  refine fun_meets0 (AllH.tok (.cons ixI_holds (by kernel_rfl) .nil)) [] (by kernel_rfl) (by kernel_rfl) fun hpre => Eq.mpr (vcCfIF l _) ?_
  refine (qfin rfl ?_ rfl rfl)
  show _ = [AV.bool (l.any oddI)]
  cases h : l.any oddI with
  | true => rw [decide_eq_true (show ixL oddI 0 l ≥ 0 from ixL_pos l 0 h)]
  | false => rw [ixL_neg l 0 h]; rfl
theorem tokPlain (k : Nat) : TOK (cxPlain k) := AllH.tok (.cons (kindsK_holds k) (by kernel_rfl) (.cons cfI_holds (by kernel_rfl) (.cons plIn_holds (by kernel_rfl) (.cons plOut_holds (by kernel_rfl) (.cons plAts_holds (by kernel_rfl) (.cons plTxt_holds (by kernel_rfl) .nil))))))
theorem plainB_part {x : Ed} (hk : 1 ≤ x.what ∧ x.what ≤ 4) : plainB x = (decide ((x.way.length : Int) > 0) && decide ((x.way.length : Int) ≤ 41) && !x.way.any oddI && partB x) := by
  unfold plainB
  rw [decide_eq_true hk, Bool.true_and]
theorem plain_holds : Holds 30 conPlain := conP_holds fun x => by
  rcases (show ∃ w : Ed, w = x from ⟨_, rfl⟩) with ⟨x, rfl⟩
  have fin : ∀ b, plainB x = b → FinQ { pre := some (fineEd x), res := .bool (plainB x) } [AV.bool b] [] [] := fun b h => qfin rfl (by rw [h]; rfl) rfl rfl
  have a1 : ∀ h1 : decide ((x.way.length : Int) > 0) = false, plainB x = false := fun h1 => by unfold plainB; rw [h1]; simp
  have a2 : ∀ h1 : decide ((x.way.length : Int) ≤ 41) = false, plainB x = false := fun h1 => by unfold plainB; rw [h1]; simp
  have a3 : ∀ h1 : (!x.way.any oddI) = false, plainB x = false := fun h1 => by unfold plainB; rw [h1]; simp
  by_cases w1 : x.what = 1
  · refine fun_meets0 (tokPlain 1) [] (by kernel_rfl) (by kernel_rfl) fun hpre => Eq.mpr (vcPlain1F x _) ?_
    simp only [nd_eta]
    refine Rq.mk w1 ⟨fun _ => ⟨fun h1 => ⟨fun h2 => ⟨fun h3 => Rq.mk ((hpre _ rfl).1 w1) ⟨fun _ => ⟨fun _ => fin _ ?_⟩⟩, fun h3 => ⟨fun _ => ⟨fun _ => fin _ (a3 h3)⟩⟩⟩, fun h2 => ⟨fun _ => ⟨fun _ => fin _ (a2 h2)⟩⟩⟩, fun h1 => ⟨fun _ => fin _ (a1 h1)⟩⟩, fun h => nomatch h⟩
    rw [plainB_part (by omega), h1, h2, h3]
    unfold partB
    rw [if_pos w1]; rfl
  by_cases w2 : x.what = 2
  · refine fun_meets0 (tokPlain 2) [] (by kernel_rfl) (by kernel_rfl) fun hpre => Eq.mpr (vcPlain2F x _) ?_
    simp only [nd_eta]
    refine Rq.mk w2 ⟨fun _ => ⟨fun h1 => ⟨fun h2 => ⟨fun h3 => Rq.mk ((hpre _ rfl).2 w2) ⟨fun _ => ⟨fun _ => fin _ ?_⟩⟩, fun h3 => ⟨fun _ => ⟨fun _ => fin _ (a3 h3)⟩⟩⟩, fun h2 => ⟨fun _ => ⟨fun _ => fin _ (a2 h2)⟩⟩⟩, fun h1 => ⟨fun _ => fin _ (a1 h1)⟩⟩, fun h => nomatch h⟩
    rw [plainB_part (by omega), h1, h2, h3]
    unfold partB
    rw [if_neg w1, if_pos w2]; rfl
  by_cases w3 : x.what = 3
  · refine fun_meets0 (tokPlain 3) [] (by kernel_rfl) (by kernel_rfl) fun hpre => Eq.mpr (vcPlain3F x _) ?_
    simp only [nd_eta]
    refine Rq.mk w3 ⟨fun _ => ⟨fun h1 => ⟨fun h2 => ⟨fun h3 => ⟨fun _ => ⟨fun _ => fin _ ?_⟩⟩, fun h3 => ⟨fun _ => ⟨fun _ => fin _ (a3 h3)⟩⟩⟩, fun h2 => ⟨fun _ => ⟨fun _ => fin _ (a2 h2)⟩⟩⟩, fun h1 => ⟨fun _ => fin _ (a1 h1)⟩⟩, fun h => nomatch h⟩
    rw [plainB_part (by omega), h1, h2, h3]
    unfold partB
    rw [if_neg w1, if_neg w2, if_pos w3]; rfl
  by_cases w4 : x.what = 4
  · refine fun_meets0 (tokPlain 4) [] (by kernel_rfl) (by kernel_rfl) fun hpre => Eq.mpr (vcPlain4F x _) ?_
    simp only [nd_eta]
    refine Rq.mk w4 ⟨fun _ => ⟨fun h1 => ⟨fun h2 => ⟨fun h3 => ⟨fun _ => ⟨fun _ => fin _ ?_⟩⟩, fun h3 => ⟨fun _ => ⟨fun _ => fin _ (a3 h3)⟩⟩⟩, fun h2 => ⟨fun _ => ⟨fun _ => fin _ (a2 h2)⟩⟩⟩, fun h1 => ⟨fun _ => fin _ (a1 h1)⟩⟩, fun h => nomatch h⟩
    rw [plainB_part (by omega), h1, h2, h3]
    unfold partB
    rw [if_neg w1, if_neg w2, if_neg w3, if_pos w4]; rfl
  have hn : ¬ (1 ≤ x.what ∧ x.what ≤ 4) := by omega
  refine fun_meets0 (tokPlain 0) [] (by kernel_rfl) (by kernel_rfl) fun hpre => Eq.mpr (vcPlain0F x _) ?_
  refine Rq.mk hn ⟨fun h => (nomatch h), fun _ => fin _ ?_⟩
  unfold plainB
  rw [decide_eq_false hn]; rfl
theorem ck1D_holds : Holds 29 conCk1D := conP_holds fun x => by
  rcases (show ∃ w : Ed, w = x from ⟨_, rfl⟩) with ⟨x, rfl⟩
  refine fun_meets0 (AllH.tok (.cons plain_holds (by kernel_rfl) .nil)) [] (by kernel_rfl) (by kernel_rfl) fun hpre => Eq.mpr (vcCk1DF x _) ?_
  rw [ed_eta]
  exact Rq.mk (hpre _ rfl) (qfin rfl rfl rfl rfl)
theorem ixE_sum : SumOK cxIxE (LL Tryz.f61 [lsIxE]) Tryz.f61.ntmps (loopAt Tryz.f61 0).1 (loopAt Tryz.f61 0).2 lsIxE := by
  intro vs bs K hs
  unfold lsIxE at hs
  simp only at hs
  split at hs
  case h_2 => exact hs.elim
  rename_i l f m i
  rcases (show ∃ w : List Ed, w = l from ⟨_, rfl⟩) with ⟨l, rfl⟩
  obtain ⟨⟨rfl, rfl, rfl, hm, hf⟩, h⟩ := hs
  refine sum_rec (σ := Nat) (fun i => [.row .edit l, .fn 29 [], .int .i64 l.length, .int .i64 (i : Nat)]) (fun _ => []) (fun i => i ≤ l.length ∧ (l.drop i).any npB = l.any npB ∧ ixL npB i (l.drop i) = ixL npB 0 l) (fun i => l.length - i) ?_ 0 ⟨Nat.zero_le _, rfl, rfl⟩
  rintro i ⟨hi, ha, he⟩ R hR
  refine Eq.mpr (vcIxEB l l.length i _) ⟨fun h1 => ?_, fun h1 => ?_⟩
  · have hlt : i < l.length := by have := of_decide_eq_true h1; omega
    rw [rd_ed hlt, ed_eta]
    rw [List.drop_eq_getElem_cons hlt, List.any_cons] at ha
    rw [List.drop_eq_getElem_cons hlt, ixL] at he
    refine Rq.mk ⟨by omega, by omega⟩ (Rq.mk (hf _ (List.getElem_mem hlt)) ⟨fun h2 => ?_, fun h2 => ?_⟩)
    · have h2 : npB l[i] = true := h2
      rw [if_pos h2] at he
      rw [h2, Bool.true_or] at ha
      rw [he]
      exact h.yes ha.symm
    · have h2 : npB l[i] = false := h2
      rw [h2, Bool.false_or] at ha
      rw [if_neg (by rw [h2]; decide)] at he
      rw [wrap_succ hlt hm]
      exact hR (i + 1) ⟨hlt, ha, he⟩ (by omega)
  · have hge : l.length ≤ i := by have := of_decide_eq_false h1; omega
    rw [List.drop_of_length_le hge] at ha
    exact h.no ha.symm
theorem ixE_holds : Holds 61 conIxE := conP_holds fun l _ => by
  rcases (show ∃ w : List Ed, w = l from ⟨_, rfl⟩) with ⟨l, rfl⟩
  refine fun_meets1 (AllH.tok (.cons ck1D_holds (by kernel_rfl) .nil)) [] lsIxE (by kernel_rfl) (by kernel_rfl) ixE_sum fun hpre => Eq.mpr (vcIxEF l _) ?_
  refine ⟨fun hm => Rq.mk ⟨rfl, rfl, rfl, hm, hpre _ rfl⟩ ⟨fun h => qfin rfl rfl rfl rfl, fun h => qfin rfl ?_ rfl rfl⟩⟩
  show _ = [AV.int .i64 (ixL npB 0 l)]
  rw [ixL_neg l 0 h]
theorem cfE_holds : Holds 28 conCfE := conP_holds fun l _ => by
  rcases (show ∃ w : List Ed, w = l from ⟨_, rfl⟩) with ⟨l, rfl⟩
  refine fun_meets0 (AllH.tok (.cons ixE_holds (by kernel_rfl) .nil)) [] (by kernel_rfl) (by kernel_rfl) fun hpre => Eq.mpr (vcCfEF l _) ?_
  refine Rq.mk (hpre _ rfl) (qfin rfl ?_ rfl rfl)
  show _ = [AV.bool (l.any npB)]
  cases h : l.any npB with
  | true => rw [decide_eq_true (show ixL npB 0 l ≥ 0 from ixL_pos l 0 h)]
  | false => rw [ixL_neg l 0 h]; rfl
theorem ckD_holds : Holds 13 conCkD := conP_holds fun s => by
  rcases (show ∃ w : List Ed, w = s from ⟨_, rfl⟩) with ⟨s, rfl⟩
  refine fun_meets0 (AllH.tok (.cons cfE_holds (by kernel_rfl) .nil)) [] (by kernel_rfl) (by kernel_rfl) fun hpre => Eq.mpr (vcCkDF s _) ?_
  refine ⟨fun _ => ⟨fun h1 => qfin rfl ?_ rfl rfl, fun h1 => Rq.mk (hpre _ rfl) ⟨fun h2 => qfin rfl ?_ rfl rfl, fun h2 => qfin rfl ?_ rfl rfl⟩⟩⟩ <;> show [AV.int .i64 _] = [AV.int .i64 (dchkS s)] <;> unfold dchkS
  · rw [if_pos (of_decide_eq_true h1)]
  · rw [if_neg (of_decide_eq_false h1), if_pos h2]
  · rw [if_neg (of_decide_eq_false h1), if_neg (by rw [h2]; decide)]
theorem numD_holds : Holds 22 conNumD := conP_holds fun n => by
  rcases (show ∃ w : Int, w = n from ⟨_, rfl⟩) with ⟨n, rfl⟩
  exact fun_meets0 (AllH.tok (.cons numQ_holds (by kernel_rfl) .nil)) [] (by kernel_rfl) (by kernel_rfl) fun _ => Eq.mpr (vcNumDF n _) (qfin rfl rfl rfl rfl)
theorem tokJnL : TOK cxJnQ := AllH.tok (.cons numQ_holds (by kernel_rfl) (.cons write_holds (by kernel_rfl) (.cons string_holds (by kernel_rfl) .nil)))
theorem jnL_sum : SumOK cxJnQ (LL Tryz.f105 [lsJnL]) Tryz.f105.ntmps (loopAt Tryz.f105 0).1 (loopAt Tryz.f105 0).2 lsJnL := by
  intro vs bs K hs
  unfold lsJnL at hs
  simp only at hs
  split at hs
  case h_2 => exact hs.elim
  rename_i l m i t
  rcases (show ∃ w : List ByteArray, w = l from ⟨_, rfl⟩) with ⟨l, rfl⟩
  obtain ⟨⟨rfl, rfl, ht, hm⟩, h⟩ := hs
  have ht : t = bk [] := kb_inj (List.eq_nil_of_length_eq_zero (by rw [kb_size]; exact ht))
  subst ht
  have hj := jnT_le l
  have hmx : maxSl = 140737488355328 := rfl
  refine sum_rec (σ := Nat × ByteArray) (fun s => [.ptr 0 0, .row .str l, .int .i64 l.length, .int .i64 (s.1 : Nat)]) (fun s => [.bld s.2]) (fun s => s.1 ≤ l.length ∧ s.2 ++ bk (jnT (l.drop s.1)) = bk (jnT l) ∧ jnOK (l.drop s.1) = jnOK l) (fun s => l.length - s.1) ?_ (0, bk []) ⟨Nat.zero_le _, kb_inj (by rw [kb_app, kb_bk, kb_bk, List.drop_zero]; rfl), rfl⟩
  rintro ⟨i, b⟩ ⟨hi, he, ho⟩ R hR
  dsimp only at hi he ho hR ⊢
  refine Eq.mpr (vcJnLB b l l.length i _) ⟨fun h1 => ?_, fun h1 => ?_⟩
  · have hlt : i < l.length := by have := of_decide_eq_true h1; omega
    have hg : rd .str l (i : Int) = l[i] := rd_get (t := .str) hlt
    rw [hg]
    rw [List.drop_eq_getElem_cons hlt] at he ho
    refine Rq.mk ⟨by omega, by omega⟩ ⟨fun _ => ⟨fun h2 => ?_, fun h2 => ⟨fun _ => ?_⟩⟩⟩
    · have h2 : bigB l[i] = true := h2
      have h3 : jnOK l = false := by rw [← ho]; unfold jnOK; rw [List.all_cons, h2]; rfl
      rw [jnT, if_pos h2] at he
      have : b = bk (jnT l) := by rw [← he]; apply kb_inj; rw [kb_app, kb_bk, List.append_nil]
      rw [this]
      exact h.no h3
    · have h2 : bigB l[i] = false := h2
      have h4 := bigB_no h2
      rw [jnT, if_neg (by rw [h2]; decide)] at he
      have hz := congrArg ByteArray.size he
      rw [ByteArray.size_append, bk_size, bk_size, List.length_append] at hz
      have e : numS ((l[i]).size : Int) ++ l[i] = bk (txtL (kb l[i])) := by rw [txtQ_eq h4]; unfold txtQ; rw [if_pos h4]
      have h5 := numS_le ((l[i]).size : Int)
      have h6 : ByteArray.size l[i] ≤ 65536 := h4
      refine Rq.mk (by omega) ?_
      have e' : numS (↑(ByteArray.size l[i]) : Int) ++ l[i] = bk (txtL (kb l[i])) := e
      rw [e']
      refine Rq.mk (by rw [bk_size]; omega) ?_
      rw [wrap_succ hlt (by omega)]
      refine hR (i + 1, b ++ bk (txtL (kb l[i]))) ⟨hlt, ?_, ?_⟩ (by dsimp only; omega)
      · dsimp only
        rw [← he]
        apply kb_inj
        simp only [kb_app, kb_bk, List.append_assoc]
      · dsimp only
        rw [← ho]
        unfold jnOK
        rw [List.all_cons, h2]; rfl
  · have hge : l.length ≤ i := by have := of_decide_eq_false h1; omega
    rw [List.drop_of_length_le hge] at he ho
    have : b = bk (jnT l) := by rw [← he]; apply kb_inj; rw [kb_app, kb_bk]; exact (List.append_nil _).symm
    rw [this]
    exact h.yes ho.symm
theorem jnL_holds : Holds 105 conJnL := conP_holds fun l => by
  rcases (show ∃ w : List ByteArray, w = l from ⟨_, rfl⟩) with ⟨l, rfl⟩
  refine fun_meets1 tokJnL [] lsJnL (by kernel_rfl) (by kernel_rfl) jnL_sum fun hpre => Eq.mpr (vcJnLF l _) ?_
  have hl : l.length ≤ 1000000 := hpre _ rfl
  have hj := jnT_le l
  have hmx : maxSl = 140737488355328 := rfl
  refine ⟨fun _ => Rq.mk ⟨rfl, rfl, rfl, hl⟩ ⟨fun h => Rq.mk (by rw [bk_size]; omega) (qfin rfl ?_ rfl rfl), fun h => qfin rfl ?_ rfl rfl⟩⟩ <;> show _ = [AV.str (jnS l), AV.int .i64 (jnE l)] <;> unfold jnS jnE
  · rw [if_pos h, if_pos h, (jn_eq h).1]
  · rw [if_neg (by rw [h]; decide), if_neg (by rw [h]; decide)]
theorem lst_holds : Holds 103 conLst := conP_holds fun l => by
  rcases (show ∃ w : List ByteArray, w = l from ⟨_, rfl⟩) with ⟨l, rfl⟩
  refine fun_meets0 (AllH.tok (.cons jnL_holds (by kernel_rfl) (.cons numQ_holds (by kernel_rfl) .nil))) [] (by kernel_rfl) (by kernel_rfl) fun _ => Eq.mpr (vcLstF l _) ?_
  have hmx : maxSl = 140737488355328 := rfl
  have fin : ∀ s e, lsS l = s → lsE l = e → FinQ { res := .tup [.str (lsS l), .int .i64 (lsE l)] } [AV.str s, AV.int .i64 e] [] [] := fun s e h1 h2 => qfin rfl (by rw [h1, h2]; rfl) rfl rfl
  refine ⟨fun _ => ⟨fun h1 => fin _ _ ?_ ?_, fun h1 => Rq.mk ?_ ⟨fun h2 => fin _ _ ?_ ?_, fun h2 => ⟨fun _ => Rq.mk ?_ (fin _ _ ?_ ?_)⟩⟩⟩⟩
  · have h1 := of_decide_eq_true h1
    unfold lsS lsE; rw [if_pos h1, if_neg (by decide)]
  · have h1 := of_decide_eq_true h1
    unfold lsE; rw [if_pos h1]
  · have h1 := of_decide_eq_false h1; omega
  · have h1 := of_decide_eq_false h1
    have h2 : ¬ jnE l = 0 := by simpa using h2
    unfold lsS lsE; rw [if_neg h1, if_neg h2]
  · have h1 := of_decide_eq_false h1
    unfold lsE; rw [if_neg h1]
  · have h1 := of_decide_eq_false h1
    have hj := jnT_le l
    have h2 : jnE l = 0 := by simpa using h2
    have h3 : jnOK l = true := by unfold jnE at h2; split at h2; assumption; cases h2
    have h5 := numS_le (l.length : Int)
    unfold jnS
    rw [if_pos h3, bk_size, ← (jn_eq h3).1]; omega
  · have h1 := of_decide_eq_false h1
    have h2 : jnE l = 0 := by simpa using h2
    have h3 : jnOK l = true := by unfold jnE at h2; split at h2; assumption; cases h2
    unfold lsS lsE jnS
    rw [if_neg h1, if_pos h2, if_pos h3, numS_nat (by omega)]
    apply kb_inj
    rw [kb_app, kb_bk, kb_bk, kb_bk]; rfl
  · have h1 := of_decide_eq_false h1
    have h2 : jnE l = 0 := by simpa using h2
    unfold lsE; rw [if_neg h1, h2]
theorem lstD_sum : SumOK cxLstD (LL Tryz.f84 [lsLstD]) Tryz.f84.ntmps (loopAt Tryz.f84 0).1 (loopAt Tryz.f84 0).2 lsLstD := by
  intro vs bs K hs
  unfold lsLstD at hs
  simp only at hs
  split at hs
  case h_2 => exact hs.elim
  rename_i l m i o
  rcases (show ∃ w : List At, w = l from ⟨_, rfl⟩) with ⟨l, rfl⟩
  obtain ⟨⟨rfl, rfl, ho, hm⟩, h⟩ := hs
  obtain rfl : o = [] := List.eq_nil_of_length_eq_zero ho
  have hmx : maxSl = 140737488355328 := rfl
  refine sum_rec (σ := Nat × List ByteArray) (fun s => [.own 0 0, .row .attr l, .int .i64 l.length, .int .i64 (s.1 : Nat)]) (fun s => [.rowb 0 .str s.2]) (fun s => s.1 ≤ l.length ∧ s.2 ++ flA (l.drop s.1) = flA l ∧ s.2.length = 2 * s.1) (fun s => l.length - s.1) ?_ (0, []) ⟨Nat.zero_le _, rfl, rfl⟩
  rintro ⟨i, b⟩ ⟨hi, he, hb⟩ R hR
  dsimp only at hi he hb hR ⊢
  refine Eq.mpr (vcLstDB b l l.length i _) ⟨fun h1 => ?_, fun h1 => ?_⟩
  · have hlt : i < l.length := by have := of_decide_eq_true h1; omega
    rw [rd_at hlt]
    rw [List.drop_eq_getElem_cons hlt, flA] at he
    refine Rq.mk ⟨by omega, by omega⟩ (Rq.mk (by simp only [List.length_cons, List.length_nil]; omega) ?_)
    rw [wrap_succ hlt (by omega)]
    refine hR (i + 1, b ++ [l[i].name, l[i].value]) ⟨hlt, ?_, ?_⟩ (by dsimp only; omega)
    · dsimp only
      rw [List.append_assoc]; exact he
    · dsimp only
      rw [List.length_append]; simp only [List.length_cons, List.length_nil]; omega
  · have hge : l.length ≤ i := by have := of_decide_eq_false h1; omega
    rw [List.drop_of_length_le hge] at he
    have : b = flA l := by rw [← he]; exact (List.append_nil _).symm
    rw [this]
    exact h
theorem lstD_holds : Holds 84 conLstD := conP_holds fun l => by
  rcases (show ∃ w : List At, w = l from ⟨_, rfl⟩) with ⟨l, rfl⟩
  refine fun_meets1 (AllH.tok (.cons lst_holds (by kernel_rfl) .nil)) [] lsLstD (by kernel_rfl) (by kernel_rfl) lstD_sum fun hpre => Eq.mpr (vcLstDF l _) ?_
  exact ⟨fun _ => Rq.mk ⟨rfl, rfl, rfl, hpre _ rfl⟩ (qfin rfl rfl rfl rfl)⟩
theorem nodeD_holds : Holds 81 conNodeD := conP_holds fun n => by
  rcases (show ∃ w : Nd, w = n from ⟨_, rfl⟩) with ⟨n, rfl⟩
  refine fun_meets0 (AllH.tok (.cons byts_holds (by kernel_rfl) (.cons txQ_holds (by kernel_rfl) .nil))) [] (by kernel_rfl) (by kernel_rfl) fun hpre => Eq.mpr (vcNodeDF n _) ?_
  simp only [nd_eta]
  refine Rq.mk (hpre _ rfl) ⟨fun h => qfin rfl ?_ rfl rfl, fun h => qfin rfl ?_ rfl rfl⟩ <;> show _ = [AV.str (ndQ n), AV.int .i64 (ndE n)] <;> unfold ndQ ndE
  · have h : ¬ bytE [n] = 0 := by simpa using h
    rw [if_neg h, if_neg h]
  · have h : bytE [n] = 0 := by simpa using h
    rw [if_pos h, if_pos h]
theorem tokWrk : TOK cxWrk := AllH.tok (.cons nodeD_holds (by kernel_rfl) (.cons lstD_holds (by kernel_rfl) (.cons txQ_holds (by kernel_rfl) .nil)))
theorem lsS_le (l : List ByteArray) : (lsS l).size ≤ 7 + l.length * 65543 := by
  unfold lsS
  split
  · rename_i h
    unfold lsE at h
    split at h
    · cases h
    rename_i h1
    have h3 : jnOK l = true := by unfold jnE at h; split at h; assumption; cases h
    rw [bk_size]
    exact lstL_le (by omega) (jn_eq h3).2
  · exact Nat.zero_le _
theorem wrIn_holds : Holds 45 conWrIn := conP_holds fun x => by
  rcases (show ∃ w : Ed, w = x from ⟨_, rfl⟩) with ⟨x, rfl⟩
  refine fun_meets0 tokWrk [] (by kernel_rfl) (by kernel_rfl) fun hpre => Eq.mpr (vcWrInF x _) ?_
  simp only [nd_eta]
  exact Rq.mk (hpre _ rfl) (qfin rfl rfl rfl rfl)
theorem wrOut_holds : Holds 48 conWrOut := conP_holds fun x => by
  rcases (show ∃ w : Ed, w = x from ⟨_, rfl⟩) with ⟨x, rfl⟩
  refine fun_meets0 tokWrk [] (by kernel_rfl) (by kernel_rfl) fun hpre => Eq.mpr (vcWrOutF x _) ?_
  simp only [nd_eta]
  exact Rq.mk (hpre _ rfl) (qfin rfl rfl rfl rfl)
theorem wrAts_holds : Holds 51 conWrAts := conP_holds fun x => by
  rcases (show ∃ w : Ed, w = x from ⟨_, rfl⟩) with ⟨x, rfl⟩
  refine fun_meets0 tokWrk [] (by kernel_rfl) (by kernel_rfl) fun hpre => Eq.mpr (vcWrAttrsF x _) ?_
  obtain ⟨h1, h2⟩ : x.old.attrs.length ≤ 1000 ∧ x.new.attrs.length ≤ 1000 := hpre _ rfl
  have e1 := lsS_le (flA x.old.attrs)
  have e2 := lsS_le (flA x.new.attrs)
  rw [fl_len] at e1 e2
  have hmx : maxSl = 140737488355328 := rfl
  exact Rq.mk (Nat.le_trans h1 (by decide)) (Rq.mk (Nat.le_trans h2 (by decide)) (Rq.mk (by omega) (qfin rfl rfl rfl rfl)))
theorem txtQ_cap (s : ByteArray) : (txtQ s).size ≤ 65543 := by
  unfold txtQ
  split
  · rename_i h
    rw [bk_size]
    have := txtL_len6 h
    omega
  · exact Nat.zero_le _
theorem wrTxt_holds : Holds 54 conWrTxt := conP_holds fun x => by
  rcases (show ∃ w : Ed, w = x from ⟨_, rfl⟩) with ⟨x, rfl⟩
  refine fun_meets0 tokWrk [] (by kernel_rfl) (by kernel_rfl) fun hpre => Eq.mpr (vcWrTextF x _) ?_
  have e1 := txtQ_cap x.old.text
  have e2 := txtQ_cap x.new.text
  have hmx : maxSl = 140737488355328 := rfl
  exact Rq.mk (by omega) (qfin rfl rfl rfl rfl)
end Go.Proofs.YtnhipiedjekkpaaGreatDoor.AX
end
section
namespace Go.Proofs.YtnhipiedjekkpaaGreatDoor.AXP
open Go Go.Proofs.YtnhipiedjekkpaaGreatDoor.AX
def stpT : Nat → List UInt8 → List ByteArray
  | 0, _ => []
  | c + 1, b => match takeT b with
    | none => []
    | some (x, r) => bk x :: stpT c r
def txsOK (c : Nat) (b : List UInt8) : Bool := (pTxs c b).isSome
def txsV (c : Nat) (b : List UInt8) : List ByteArray := match pTxs c b with | some (l, _) => l | none => []
def txsR (c : Nat) (b : List UInt8) : ByteArray := match pTxs c b with | some (_, r) => bk r | none => ⟨#[]⟩
def dlOK (b : ByteArray) : Bool := !(dDel ⟨b, false⟩).2.bad && eqS (dDel ⟨b, false⟩).2.b ⟨#[]⟩ && (dchkS (dDel ⟨b, false⟩).1 == 0)
def dlL (b : ByteArray) : List Ed := if dlOK b = true then (dDel ⟨b, false⟩).1 else []
def dlE (b : ByteArray) : Int := if dlOK b = true then 0 else 4
end Go.Proofs.YtnhipiedjekkpaaGreatDoor.AXP
namespace Go.Proofs.YtnhipiedjekkpaaGreatDoor.AX
open Go AXP
noncomputable def cxTkL : Cx := cxT (tabLook [(68, conTkN), (106, conTkT)])
def lsTkL : LS where
  keep := [(8, .own .str), (6, .as), (22, .as), (23, .as)]
  left := [(8, .own .str), (6, .as), (2, .as), (3, .as), (4, .as)]
  sum := fun vs bs K => match vs, bs with
    | [.own 0 0, .str r, .int .i64 n, .int .i64 i], [.rowb 0 .str o] => Rq (o.length = 0 ∧ i = 0 ∧ 0 ≤ n ∧ n ≤ 1000)
      (Br (txsOK n.toNat (kb r)) (K (.exit 0) [.own 0 0, .str (txsR n.toNat (kb r)), .any, .any, .any] [.rowb 0 .str (txsV n.toNat (kb r))])
        (K .ret [.own 0 0, .str ⟨#[]⟩, .nil, .str ⟨#[]⟩, .int .i64 4] [.rowb 0 .str (stpT n.toNat (kb r))]))
    | _, _ => False
def conTkL : Con := conP [.str] fun (b : ByteArray) => { res := .tup [.row .str (tlL b), .str (tlR b), .int .i64 (tlE b)] }
noncomputable def cxDRd : Cx := cxT (tabLook [(68, conTkN), (106, conTkT), (104, conTkL)])
def conDNum : Con := fun args hp => match args, hp with
  | [.ptr 0 0, .int .i64 m], [.box [.str b, .bool e]] => some { res := .int .i64 (dNum m ⟨b, e⟩).1, hp := [.box [.str (dNum m ⟨b, e⟩).2.b, .bool (dNum m ⟨b, e⟩).2.bad]] }
  | _, _ => none
def conDTxt : Con := fun args hp => match args, hp with
  | [.ptr 0 0], [.box [.str b, .bool e]] => some { res := .str (dTxt ⟨b, e⟩).1, hp := [.box [.str (dTxt ⟨b, e⟩).2.b, .bool (dTxt ⟨b, e⟩).2.bad]] }
  | _, _ => none
noncomputable def cxDNode : Cx := cxT (tabLook [(88, conDTxt), (99, conReadN)])
def conDNode : Con := fun args hp => match args, hp with
  | [.ptr 0 0], [.box [.str b, .bool e]] => some { res := .agg (nodeL (dNode ⟨b, e⟩).1), hp := [.box [.str (dNode ⟨b, e⟩).2.b, .bool (dNode ⟨b, e⟩).2.bad]] }
  | _, _ => none
def lsDAts : LS where
  keep := [(0, .as), (6, .own .attr), (3, .as), (7, .as)]
  left := [(0, .as), (6, .own .attr)]
  sum := fun vs bs K => match vs, bs with
    | [.ptr 0 0, .own 1 0, .row .str l, .int .i64 i], [.box [.str b, .bool e], .rowb 0 .attr o] => Rq (i = 0 ∧ o.length = 0 ∧ l.length % 2 = 0 ∧ l.length ≤ 1000) (K (.exit 0) [.ptr 0 0, .own 1 0] [.box [.str b, .bool e], .rowb 0 .attr (prs l)])
    | _, _ => False
def conDAts : Con := fun args hp => match args, hp with
  | [.ptr 0 0], [.box [.str b, .bool e]] => some { res := .row .attr (dAts ⟨b, e⟩).1, hp := [.box [.str (dAts ⟨b, e⟩).2.b, .bool (dAts ⟨b, e⟩).2.bad]] }
  | _, _ => none
noncomputable def cxDRk : Cx := cxT (tabLook [(82, conDNode), (85, conDAts), (88, conDTxt)])
def conRdIn : Con := fun args hp => match args, hp with
  | [.ptr 0 0, .ptr 1 0], [.box [.str b, .bool e], .box [.int .i64 k, .nil, .int .i64 o0, .int .i64 o1, .str o2, .nil, .str o4, .nil, .int .i64 n0, .int .i64 n1, .str n2, .nil, .str n4, .nil]] =>
    some { res := .tup [], hp := [.box [.str (dNode ⟨b, e⟩).2.b, .bool (dNode ⟨b, e⟩).2.bad], .box (.int .i64 k :: .nil :: ([.int .i64 o0, .int .i64 o1, .str o2, .nil, .str o4, .nil] ++ nodeL (dNode ⟨b, e⟩).1))] }
  | [.ptr 0 0, .ptr 1 0], [.box [.str b, .bool e], .box [.int .i64 k, .own 2 0, .int .i64 o0, .int .i64 o1, .str o2, .nil, .str o4, .nil, .int .i64 n0, .int .i64 n1, .str n2, .nil, .str n4, .nil], .rowb 0 .int w] =>
    some { res := .tup [], hp := [.box [.str (dNode ⟨b, e⟩).2.b, .bool (dNode ⟨b, e⟩).2.bad], .box (.int .i64 k :: .own 2 0 :: ([.int .i64 o0, .int .i64 o1, .str o2, .nil, .str o4, .nil] ++ nodeL (dNode ⟨b, e⟩).1)), .rowb 0 .int w] }
  | _, _ => none
def conRdOut : Con := fun args hp => match args, hp with
  | [.ptr 0 0, .ptr 1 0], [.box [.str b, .bool e], .box [.int .i64 k, .nil, .int .i64 o0, .int .i64 o1, .str o2, .nil, .str o4, .nil, .int .i64 n0, .int .i64 n1, .str n2, .nil, .str n4, .nil]] =>
    some { res := .tup [], hp := [.box [.str (dNode ⟨b, e⟩).2.b, .bool (dNode ⟨b, e⟩).2.bad], .box (.int .i64 k :: .nil :: (nodeL (dNode ⟨b, e⟩).1 ++ [.int .i64 n0, .int .i64 n1, .str n2, .nil, .str n4, .nil]))] }
  | [.ptr 0 0, .ptr 1 0], [.box [.str b, .bool e], .box [.int .i64 k, .own 2 0, .int .i64 o0, .int .i64 o1, .str o2, .nil, .str o4, .nil, .int .i64 n0, .int .i64 n1, .str n2, .nil, .str n4, .nil], .rowb 0 .int w] =>
    some { res := .tup [], hp := [.box [.str (dNode ⟨b, e⟩).2.b, .bool (dNode ⟨b, e⟩).2.bad], .box (.int .i64 k :: .own 2 0 :: (nodeL (dNode ⟨b, e⟩).1 ++ [.int .i64 n0, .int .i64 n1, .str n2, .nil, .str n4, .nil])), .rowb 0 .int w] }
  | _, _ => none
def conRdAttrs : Con := fun args hp => match args, hp with
  | [.ptr 0 0, .ptr 1 0], [.box [.str b, .bool e], .box [.int .i64 k, .nil, .int .i64 o0, .int .i64 o1, .str o2, .nil, .str o4, .nil, .int .i64 n0, .int .i64 n1, .str n2, .nil, .str n4, .nil]] =>
    some { res := .tup [], hp := [.box [.str (dAts (dAts ⟨b, e⟩).2).2.b, .bool (dAts (dAts ⟨b, e⟩).2).2.bad], .box (.int .i64 k :: .nil :: ([.int .i64 o0, .int .i64 o1, .str o2, .row .attr (dAts ⟨b, e⟩).1, .str o4, .nil, .int .i64 n0, .int .i64 n1, .str n2, .row .attr (dAts (dAts ⟨b, e⟩).2).1, .str n4, .nil]))] }
  | [.ptr 0 0, .ptr 1 0], [.box [.str b, .bool e], .box [.int .i64 k, .own 2 0, .int .i64 o0, .int .i64 o1, .str o2, .nil, .str o4, .nil, .int .i64 n0, .int .i64 n1, .str n2, .nil, .str n4, .nil], .rowb 0 .int w] =>
    some { res := .tup [], hp := [.box [.str (dAts (dAts ⟨b, e⟩).2).2.b, .bool (dAts (dAts ⟨b, e⟩).2).2.bad], .box (.int .i64 k :: .own 2 0 :: ([.int .i64 o0, .int .i64 o1, .str o2, .row .attr (dAts ⟨b, e⟩).1, .str o4, .nil, .int .i64 n0, .int .i64 n1, .str n2, .row .attr (dAts (dAts ⟨b, e⟩).2).1, .str n4, .nil])), .rowb 0 .int w] }
  | _, _ => none
def conRdText : Con := fun args hp => match args, hp with
  | [.ptr 0 0, .ptr 1 0], [.box [.str b, .bool e], .box [.int .i64 k, .nil, .int .i64 o0, .int .i64 o1, .str o2, .nil, .str o4, .nil, .int .i64 n0, .int .i64 n1, .str n2, .nil, .str n4, .nil]] =>
    some { res := .tup [], hp := [.box [.str (dTxt (dTxt ⟨b, e⟩).2).2.b, .bool (dTxt (dTxt ⟨b, e⟩).2).2.bad], .box (.int .i64 k :: .nil :: ([.int .i64 o0, .int .i64 o1, .str o2, .nil, .str (dTxt ⟨b, e⟩).1, .nil, .int .i64 n0, .int .i64 n1, .str n2, .nil, .str (dTxt (dTxt ⟨b, e⟩).2).1, .nil]))] }
  | [.ptr 0 0, .ptr 1 0], [.box [.str b, .bool e], .box [.int .i64 k, .own 2 0, .int .i64 o0, .int .i64 o1, .str o2, .nil, .str o4, .nil, .int .i64 n0, .int .i64 n1, .str n2, .nil, .str n4, .nil], .rowb 0 .int w] =>
    some { res := .tup [], hp := [.box [.str (dTxt (dTxt ⟨b, e⟩).2).2.b, .bool (dTxt (dTxt ⟨b, e⟩).2).2.bad], .box (.int .i64 k :: .own 2 0 :: ([.int .i64 o0, .int .i64 o1, .str o2, .nil, .str (dTxt ⟨b, e⟩).1, .nil, .int .i64 n0, .int .i64 n1, .str n2, .nil, .str (dTxt (dTxt ⟨b, e⟩).2).1, .nil])), .rowb 0 .int w] }
  | _, _ => none
noncomputable def cxDEd (k : Nat) : Cx := cxT (tabLook [(32, conDNum), (23, conKindsK k), (46, conRdIn), (49, conRdOut), (52, conRdAttrs), (55, conRdText)])
def lsDEd : LS where
  keep := [(0, .as), (2, .as), (3, .as), (4, .as)]
  left := [(0, .as), (2, .as), (3, .as)]
  sum := fun vs bs K => match vs, bs with
    | [.ptr 0 0, .ptr 1 0, .ptr 2 0, .int .i64 n], [.box [.str b, .bool e], .box [.int .i64 z, .nil, .int .i64 o0, .int .i64 o1, .str o2, .nil, .str o4, .nil, .int .i64 n0, .int .i64 n1, .str n2, .nil, .str n4, .nil], .box [.int .i64 k, .nil, .int .i64 p0, .int .i64 p1, .str p2, .nil, .str p4, .nil, .int .i64 q0, .int .i64 q1, .str q2, .nil, .str q4, .nil]] =>
      Rq (0 ≤ n ∧ n ≤ 41) (Br ((dWay n.toNat ⟨b, e⟩).1.length == 0)
        (K (.exit 0) [.ptr 0 0, .ptr 1 0, .ptr 2 0] [.box [.str (dWay n.toNat ⟨b, e⟩).2.b, .bool (dWay n.toNat ⟨b, e⟩).2.bad], .box [.int .i64 z, .nil, .int .i64 o0, .int .i64 o1, .str o2, .nil, .str o4, .nil, .int .i64 n0, .int .i64 n1, .str n2, .nil, .str n4, .nil], .box [.int .i64 k, .nil, .int .i64 p0, .int .i64 p1, .str p2, .nil, .str p4, .nil, .int .i64 q0, .int .i64 q1, .str q2, .nil, .str q4, .nil]])
        (K (.exit 0) [.ptr 0 0, .ptr 1 0, .ptr 2 0] [.box [.str (dWay n.toNat ⟨b, e⟩).2.b, .bool (dWay n.toNat ⟨b, e⟩).2.bad], .box [.int .i64 z, .nil, .int .i64 o0, .int .i64 o1, .str o2, .nil, .str o4, .nil, .int .i64 n0, .int .i64 n1, .str n2, .nil, .str n4, .nil], .box [.int .i64 k, .own 3 0, .int .i64 p0, .int .i64 p1, .str p2, .nil, .str p4, .nil, .int .i64 q0, .int .i64 q1, .str q2, .nil, .str q4, .nil], .rowb 0 .int (dWay n.toNat ⟨b, e⟩).1]))
    | _, _ => False
def conDEd : Con := fun args hp => match args, hp with
  | [.ptr 0 0], [.box [.str b, .bool e]] => some { res := .agg (editL (dEd ⟨b, e⟩).1), hp := [.box [.str (dEd ⟨b, e⟩).2.b, .bool (dEd ⟨b, e⟩).2.bad]] }
  | _, _ => none
noncomputable def cxDRead : Cx := cxT (tabLook [(32, conDNum), (33, conDEd), (13, conCkD)])
def lsDRead : LS where
  keep := [(4, .as), (5, .own .edit), (6, .as)]
  left := [(4, .as), (5, .own .edit)]
  sum := fun vs bs K => match vs, bs with
    | [.ptr 0 0, .own 1 0, .int .i64 n], [.box [.str b, .bool e], .rowb 0 .edit o] => Rq (o.length = 0 ∧ 0 ≤ n ∧ n ≤ 400)
      (K (.exit 0) [.ptr 0 0, .own 1 0] [.box [.str (dEds n.toNat ⟨b, e⟩).2.b, .bool (dEds n.toNat ⟨b, e⟩).2.bad], .rowb 0 .edit (dEds n.toNat ⟨b, e⟩).1])
    | _, _ => False
def conDRead : Con := conP [.str] fun (b : ByteArray) => { res := .tup [.row .edit (dlL b), .int .i64 (dlE b)] }
end Go.Proofs.YtnhipiedjekkpaaGreatDoor.AX
end
section
namespace Go.Proofs.YtnhipiedjekkpaaGreatDoor.AX
open Go AXP
set_option maxRecDepth 100000
theorem vcTkLB (o : List ByteArray) (r : ByteArray) (n i : Int) (K : Ex → List AV → List Blk → Prop) : (bodyA cxTkL (LL Tryz.f104 [lsTkL]) Tryz.f104.ntmps (loopAt Tryz.f104 0).1 (loopAt Tryz.f104 0).2 lsTkL.keep lsTkL.left K [.own 0 0, .str r, .int .i64 n, .int .i64 i] [.rowb 0 .str o]) = (
Br (decide (i < n))
 (Br (ttE r != (0 : Int))
 (K Ex.ret
 [AV.own (0 : Nat) (0 : Nat), AV.str (ttR r), AV.nil, AV.str (ByteArray.mk (Array.mk [])),
 AV.int IntKind.i64 (4 : Int)]
 [Blk.rowb (0 : Nat) Ty.str o])
 (Rq ((o.length + [ttS r].length) * (16 : Nat) ≤ maxSl)
 (K Ex.norm
 [AV.own (0 : Nat) (0 : Nat), AV.str (ttR r), AV.int IntKind.i64 n,
 AV.int IntKind.i64 (IntKind.i64.wrap (i + (1 : Int)))]
 [Blk.rowb (0 : Nat) Ty.str (o ++ [ttS r])])))
 (K (Ex.exit (0 : Nat)) [AV.own (0 : Nat) (0 : Nat), AV.str r, AV.any, AV.any, AV.any] [Blk.rowb (0 : Nat) Ty.str o])) := by kernel_rfl
theorem vcTkLF (b : ByteArray) (Q : List AV → List Blk → List Blk → Prop) : (funA cxTkL (LL Tryz.f104 [lsTkL]) Tryz.f104 [.str b] [] [.row .str, .as, .as] Q) = (
Br (tkE b != (0 : Int)) (Q [AV.row Ty.str [], AV.str (ByteArray.mk (Array.mk [])), AV.int IntKind.i64 (4 : Int)] [] [])
 (Br (decide (tkN b > (1000 : Int)))
 (Q [AV.row Ty.str [], AV.str (ByteArray.mk (Array.mk [])), AV.int IntKind.i64 (4 : Int)] [] [])
 (Rq ((0 : Nat) = (0 : Nat) ∧ (0 : Int) = (0 : Int) ∧ (0 : Int) ≤ tkN b ∧ tkN b ≤ (1000 : Int))
 (Br (txsOK (tkN b).toNat (kb (tkR b)))
 (Q
 [AV.row Ty.str (txsV (tkN b).toNat (kb (tkR b))), AV.str (txsR (tkN b).toNat (kb (tkR b))),
 AV.int IntKind.i64 (0 : Int)]
 [] [])
 (Q [AV.row Ty.str [], AV.str (ByteArray.mk (Array.mk [])), AV.int IntKind.i64 (4 : Int)] [] []))))) := by kernel_rfl
theorem vcDNumF (m : Int) (b : ByteArray) (e : Bool) (Q : List AV → List Blk → List Blk → Prop) : (funA cxDRd (LL Tryz.f32 []) Tryz.f32 [.ptr 0 0, .int .i64 m] [.box [.str b, .bool e]] [] Q) = (
Br (tkE b != (0 : Int)) (Q [AV.int IntKind.i64 (0 : Int)] [Blk.box [AV.str (tkR b), AV.bool true]] [])
 (Br (decide (tkN b > m)) (Q [AV.int IntKind.i64 (0 : Int)] [Blk.box [AV.str (tkR b), AV.bool true]] [])
 (Q [AV.int IntKind.i64 (tkN b)] [Blk.box [AV.str (tkR b), AV.bool e]] []))) := by kernel_rfl
theorem vcDTxtF (b : ByteArray) (e : Bool) (Q : List AV → List Blk → List Blk → Prop) : (funA cxDRd (LL Tryz.f88 []) Tryz.f88 [.ptr 0 0] [.box [.str b, .bool e]] [] Q) = (
Br e (Q [AV.str (ttS b)] [Blk.box [AV.str (ttR b), AV.bool true]] [])
 (Q [AV.str (ttS b)] [Blk.box [AV.str (ttR b), AV.bool (ttE b != (0 : Int))]] [])) := by kernel_rfl
theorem vcDNodeF (b : ByteArray) (e : Bool) (Q : List AV → List Blk → List Blk → Prop) : (funA cxDNode (LL Tryz.f82 []) Tryz.f82 [.ptr 0 0] [.box [.str b, .bool e]] [.as, .as, .as, .row .attr, .as, .row .node] Q) = (
Br (rdE (ttS b) != (0 : Int))
 (Q
 [AV.agg
 [AV.int IntKind.i64 (0 : Int), AV.int IntKind.i64 (0 : Int), AV.str (ByteArray.mk (Array.mk [])),
 AV.row Ty.attr [], AV.str (ByteArray.mk (Array.mk [])), AV.row Ty.node []]]
 [Blk.box [AV.str (ttR b), AV.bool true]] [])
 (Gv ((rdL (ttS b)).length ≤ maxSl)
 (Br ((↑(rdL (ttS b)).length : Int) != (1 : Int))
 (Q
 [AV.agg
 [AV.int IntKind.i64 (0 : Int), AV.int IntKind.i64 (0 : Int), AV.str (ByteArray.mk (Array.mk [])),
 AV.row Ty.attr [], AV.str (ByteArray.mk (Array.mk [])), AV.row Ty.node []]]
 [Blk.box [AV.str (ttR b), AV.bool true]] [])
 (Rq ((0 : Int) ≤ (0 : Int) ∧ (0 : Int) < (↑(rdL (ttS b)).length : Int))
 (Q
 [AV.agg
 [AV.int IntKind.i64 (rd Ty.node (rdL (ttS b)) (0 : Int)).1,
 AV.int IntKind.i64 (rd Ty.node (rdL (ttS b)) (0 : Int)).2,
 AV.str (rd Ty.node (rdL (ttS b)) (0 : Int)).3, AV.row Ty.attr (rd Ty.node (rdL (ttS b)) (0 : Int)).4,
 AV.str (rd Ty.node (rdL (ttS b)) (0 : Int)).5, AV.row Ty.node (rd Ty.node (rdL (ttS b)) (0 : Int)).6]]
 [Blk.box [AV.str (ttR b), AV.bool (e || ttE b != (0 : Int))]] []))))) := by kernel_rfl
theorem vcDAtsB (o : List At) (l : List ByteArray) (i : Int) (b : ByteArray) (e : Bool) (K : Ex → List AV → List Blk → Prop) : (bodyA cxDRd (LL Tryz.f85 [lsDAts]) Tryz.f85.ntmps (loopAt Tryz.f85 0).1 (loopAt Tryz.f85 0).2 lsDAts.keep lsDAts.left K [.ptr 0 0, .own 1 0, .row .str l, .int .i64 i] [.box [.str b, .bool e], .rowb 0 .attr o]) = (
Gv (l.length ≤ maxSl)
 (Br (decide (IntKind.i64.wrap (i + (1 : Int)) < (↑l.length : Int)))
 (Rq ((0 : Int) ≤ i ∧ i < (↑l.length : Int))
 (Rq ((0 : Int) ≤ IntKind.i64.wrap (i + (1 : Int)) ∧ IntKind.i64.wrap (i + (1 : Int)) < (↑l.length : Int))
 (Rq
 ((o.length + [At.mk (rd Ty.str l i) (rd Ty.str l (IntKind.i64.wrap (i + (1 : Int))))].length) * (32 : Nat) ≤
 maxSl)
 (K Ex.norm
 [AV.ptr (0 : Nat) (0 : Nat), AV.own ((0 : Nat) + (1 : Nat)) (0 : Nat), AV.row Ty.str l,
 AV.int IntKind.i64 (IntKind.i64.wrap (i + (2 : Int)))]
 [Blk.box [AV.str b, AV.bool e],
 Blk.rowb (0 : Nat) Ty.attr
 (o ++ [At.mk (rd Ty.str l i) (rd Ty.str l (IntKind.i64.wrap (i + (1 : Int))))])]))))
 (K (Ex.exit (0 : Nat)) [AV.ptr (0 : Nat) (0 : Nat), AV.own ((0 : Nat) + (1 : Nat)) (0 : Nat)]
 [Blk.box [AV.str b, AV.bool e], Blk.rowb (0 : Nat) Ty.attr o]))) := by kernel_rfl
theorem vcDAtsF (b : ByteArray) (e : Bool) (Q : List AV → List Blk → List Blk → Prop) : (funA cxDRd (LL Tryz.f85 [lsDAts]) Tryz.f85 [.ptr 0 0] [.box [.str b, .bool e]] [.row .attr] Q) = (
Br (tlE b != (0 : Int)) (Q [AV.row Ty.attr []] [Blk.box [AV.str (tlR b), AV.bool true]] [])
 (Rq ((2 : Int) ≠ (0 : Int))
 (Gv ((tlL b).length ≤ maxSl)
 (Br (decide ((↑(tlL b).length : Int).tmod (2 : Int) > (0 : Int)))
 (Q [AV.row Ty.attr []] [Blk.box [AV.str (tlR b), AV.bool true]] [])
 (Rq
 ((0 : Int) = (0 : Int) ∧
 (0 : Nat) = (0 : Nat) ∧ (tlL b).length % (2 : Nat) = (0 : Nat) ∧ (tlL b).length ≤ (1000 : Nat))
 (Q [AV.row Ty.attr (prs (tlL b))] [Blk.box [AV.str (tlR b), AV.bool e]] [])))))) := by kernel_rfl
theorem vcRdIn0 (k o0 o1 n0 n1 : Int) (o2 o4 n2 n4 : ByteArray) (b : ByteArray) (e : Bool) (Q : List AV → List Blk → List Blk → Prop) : (funA cxDRk (LL Tryz.f46 []) Tryz.f46 [.ptr 0 0, .ptr 1 0] [.box [.str b, .bool e], .box [.int .i64 k, .nil, .int .i64 o0, .int .i64 o1, .str o2, .nil, .str o4, .nil, .int .i64 n0, .int .i64 n1, .str n2, .nil, .str n4, .nil]] [] Q) = (
Q []
 [Blk.box [AV.str (dNode (DS.mk b e)).2.b, AV.bool (dNode (DS.mk b e)).2.bad],
 Blk.box
 [AV.int IntKind.i64 k, AV.nil, AV.int IntKind.i64 o0, AV.int IntKind.i64 o1, AV.str o2, AV.nil, AV.str o4, AV.nil,
 AV.int IntKind.i64 (dNode (DS.mk b e)).1.1, AV.int IntKind.i64 (dNode (DS.mk b e)).1.2,
 AV.str (dNode (DS.mk b e)).1.3, AV.row Ty.attr (dNode (DS.mk b e)).1.4, AV.str (dNode (DS.mk b e)).1.5,
 AV.row Ty.node (dNode (DS.mk b e)).1.6]]
 []) := by kernel_rfl
theorem vcRdIn1 (k o0 o1 n0 n1 : Int) (o2 o4 n2 n4 : ByteArray) (b : ByteArray) (e : Bool) (w : List Int) (Q : List AV → List Blk → List Blk → Prop) : (funA cxDRk (LL Tryz.f46 []) Tryz.f46 [.ptr 0 0, .ptr 1 0] [.box [.str b, .bool e], .box [.int .i64 k, .own 2 0, .int .i64 o0, .int .i64 o1, .str o2, .nil, .str o4, .nil, .int .i64 n0, .int .i64 n1, .str n2, .nil, .str n4, .nil], .rowb 0 .int w] [] Q) = (
Q []
 [Blk.box [AV.str (dNode (DS.mk b e)).2.b, AV.bool (dNode (DS.mk b e)).2.bad],
 Blk.box
 [AV.int IntKind.i64 k, AV.own ((0 : Nat) + (1 : Nat) + (1 : Nat)) (0 : Nat), AV.int IntKind.i64 o0,
 AV.int IntKind.i64 o1, AV.str o2, AV.nil, AV.str o4, AV.nil, AV.int IntKind.i64 (dNode (DS.mk b e)).1.1,
 AV.int IntKind.i64 (dNode (DS.mk b e)).1.2, AV.str (dNode (DS.mk b e)).1.3,
 AV.row Ty.attr (dNode (DS.mk b e)).1.4, AV.str (dNode (DS.mk b e)).1.5, AV.row Ty.node (dNode (DS.mk b e)).1.6],
 Blk.rowb (0 : Nat) Ty.int w]
 []) := by kernel_rfl
theorem vcRdOut0 (k o0 o1 n0 n1 : Int) (o2 o4 n2 n4 : ByteArray) (b : ByteArray) (e : Bool) (Q : List AV → List Blk → List Blk → Prop) : (funA cxDRk (LL Tryz.f49 []) Tryz.f49 [.ptr 0 0, .ptr 1 0] [.box [.str b, .bool e], .box [.int .i64 k, .nil, .int .i64 o0, .int .i64 o1, .str o2, .nil, .str o4, .nil, .int .i64 n0, .int .i64 n1, .str n2, .nil, .str n4, .nil]] [] Q) = (
Q []
 [Blk.box [AV.str (dNode (DS.mk b e)).2.b, AV.bool (dNode (DS.mk b e)).2.bad],
 Blk.box
 [AV.int IntKind.i64 k, AV.nil, AV.int IntKind.i64 (dNode (DS.mk b e)).1.1,
 AV.int IntKind.i64 (dNode (DS.mk b e)).1.2, AV.str (dNode (DS.mk b e)).1.3,
 AV.row Ty.attr (dNode (DS.mk b e)).1.4, AV.str (dNode (DS.mk b e)).1.5, AV.row Ty.node (dNode (DS.mk b e)).1.6,
 AV.int IntKind.i64 n0, AV.int IntKind.i64 n1, AV.str n2, AV.nil, AV.str n4, AV.nil]]
 []) := by kernel_rfl
theorem vcRdOut1 (k o0 o1 n0 n1 : Int) (o2 o4 n2 n4 : ByteArray) (b : ByteArray) (e : Bool) (w : List Int) (Q : List AV → List Blk → List Blk → Prop) : (funA cxDRk (LL Tryz.f49 []) Tryz.f49 [.ptr 0 0, .ptr 1 0] [.box [.str b, .bool e], .box [.int .i64 k, .own 2 0, .int .i64 o0, .int .i64 o1, .str o2, .nil, .str o4, .nil, .int .i64 n0, .int .i64 n1, .str n2, .nil, .str n4, .nil], .rowb 0 .int w] [] Q) = (
Q []
 [Blk.box [AV.str (dNode (DS.mk b e)).2.b, AV.bool (dNode (DS.mk b e)).2.bad],
 Blk.box
 [AV.int IntKind.i64 k, AV.own ((0 : Nat) + (1 : Nat) + (1 : Nat)) (0 : Nat),
 AV.int IntKind.i64 (dNode (DS.mk b e)).1.1, AV.int IntKind.i64 (dNode (DS.mk b e)).1.2,
 AV.str (dNode (DS.mk b e)).1.3, AV.row Ty.attr (dNode (DS.mk b e)).1.4, AV.str (dNode (DS.mk b e)).1.5,
 AV.row Ty.node (dNode (DS.mk b e)).1.6, AV.int IntKind.i64 n0, AV.int IntKind.i64 n1, AV.str n2, AV.nil,
 AV.str n4, AV.nil],
 Blk.rowb (0 : Nat) Ty.int w]
 []) := by kernel_rfl
theorem vcRdAttrs0 (k o0 o1 n0 n1 : Int) (o2 o4 n2 n4 : ByteArray) (b : ByteArray) (e : Bool) (Q : List AV → List Blk → List Blk → Prop) : (funA cxDRk (LL Tryz.f52 []) Tryz.f52 [.ptr 0 0, .ptr 1 0] [.box [.str b, .bool e], .box [.int .i64 k, .nil, .int .i64 o0, .int .i64 o1, .str o2, .nil, .str o4, .nil, .int .i64 n0, .int .i64 n1, .str n2, .nil, .str n4, .nil]] [] Q) = (
Q []
 [Blk.box
 [AV.str (dAts (DS.mk (dAts (DS.mk b e)).2.b (dAts (DS.mk b e)).2.bad)).2.b,
 AV.bool (dAts (DS.mk (dAts (DS.mk b e)).2.b (dAts (DS.mk b e)).2.bad)).2.bad],
 Blk.box
 [AV.int IntKind.i64 k, AV.nil, AV.int IntKind.i64 o0, AV.int IntKind.i64 o1, AV.str o2,
 AV.row Ty.attr (dAts (DS.mk b e)).1, AV.str o4, AV.nil, AV.int IntKind.i64 n0, AV.int IntKind.i64 n1, AV.str n2,
 AV.row Ty.attr (dAts (DS.mk (dAts (DS.mk b e)).2.b (dAts (DS.mk b e)).2.bad)).1, AV.str n4, AV.nil]]
 []) := by kernel_rfl
theorem vcRdAttrs1 (k o0 o1 n0 n1 : Int) (o2 o4 n2 n4 : ByteArray) (b : ByteArray) (e : Bool) (w : List Int) (Q : List AV → List Blk → List Blk → Prop) : (funA cxDRk (LL Tryz.f52 []) Tryz.f52 [.ptr 0 0, .ptr 1 0] [.box [.str b, .bool e], .box [.int .i64 k, .own 2 0, .int .i64 o0, .int .i64 o1, .str o2, .nil, .str o4, .nil, .int .i64 n0, .int .i64 n1, .str n2, .nil, .str n4, .nil], .rowb 0 .int w] [] Q) = (
Q []
 [Blk.box
 [AV.str (dAts (DS.mk (dAts (DS.mk b e)).2.b (dAts (DS.mk b e)).2.bad)).2.b,
 AV.bool (dAts (DS.mk (dAts (DS.mk b e)).2.b (dAts (DS.mk b e)).2.bad)).2.bad],
 Blk.box
 [AV.int IntKind.i64 k, AV.own ((0 : Nat) + (1 : Nat) + (1 : Nat)) (0 : Nat), AV.int IntKind.i64 o0,
 AV.int IntKind.i64 o1, AV.str o2, AV.row Ty.attr (dAts (DS.mk b e)).1, AV.str o4, AV.nil, AV.int IntKind.i64 n0,
 AV.int IntKind.i64 n1, AV.str n2,
 AV.row Ty.attr (dAts (DS.mk (dAts (DS.mk b e)).2.b (dAts (DS.mk b e)).2.bad)).1, AV.str n4, AV.nil],
 Blk.rowb (0 : Nat) Ty.int w]
 []) := by kernel_rfl
theorem vcRdText0 (k o0 o1 n0 n1 : Int) (o2 o4 n2 n4 : ByteArray) (b : ByteArray) (e : Bool) (Q : List AV → List Blk → List Blk → Prop) : (funA cxDRk (LL Tryz.f55 []) Tryz.f55 [.ptr 0 0, .ptr 1 0] [.box [.str b, .bool e], .box [.int .i64 k, .nil, .int .i64 o0, .int .i64 o1, .str o2, .nil, .str o4, .nil, .int .i64 n0, .int .i64 n1, .str n2, .nil, .str n4, .nil]] [] Q) = (
Q []
 [Blk.box [AV.str (ttR (ttR b)), AV.bool (e || ttE b != (0 : Int) || ttE (ttR b) != (0 : Int))],
 Blk.box
 [AV.int IntKind.i64 k, AV.nil, AV.int IntKind.i64 o0, AV.int IntKind.i64 o1, AV.str o2, AV.nil, AV.str (ttS b),
 AV.nil, AV.int IntKind.i64 n0, AV.int IntKind.i64 n1, AV.str n2, AV.nil, AV.str (ttS (ttR b)), AV.nil]]
 []) := by kernel_rfl
theorem vcRdText1 (k o0 o1 n0 n1 : Int) (o2 o4 n2 n4 : ByteArray) (b : ByteArray) (e : Bool) (w : List Int) (Q : List AV → List Blk → List Blk → Prop) : (funA cxDRk (LL Tryz.f55 []) Tryz.f55 [.ptr 0 0, .ptr 1 0] [.box [.str b, .bool e], .box [.int .i64 k, .own 2 0, .int .i64 o0, .int .i64 o1, .str o2, .nil, .str o4, .nil, .int .i64 n0, .int .i64 n1, .str n2, .nil, .str n4, .nil], .rowb 0 .int w] [] Q) = (
Q []
 [Blk.box [AV.str (ttR (ttR b)), AV.bool (e || ttE b != (0 : Int) || ttE (ttR b) != (0 : Int))],
 Blk.box
 [AV.int IntKind.i64 k, AV.own ((0 : Nat) + (1 : Nat) + (1 : Nat)) (0 : Nat), AV.int IntKind.i64 o0,
 AV.int IntKind.i64 o1, AV.str o2, AV.nil, AV.str (ttS b), AV.nil, AV.int IntKind.i64 n0, AV.int IntKind.i64 n1,
 AV.str n2, AV.nil, AV.str (ttS (ttR b)), AV.nil],
 Blk.rowb (0 : Nat) Ty.int w]
 []) := by kernel_rfl
theorem vcDEdB0 (j : Nat) (z o0 o1 n0 n1 : Int) (o2 o4 n2 n4 : ByteArray) (k p0 p1 q0 q1 : Int) (p2 p4 q2 q4 : ByteArray) (n : Int) (b : ByteArray) (e : Bool) (K : Ex → List AV → List Blk → Prop) : (bodyA (cxDEd j) (LL Tryz.f33 [lsDEd]) Tryz.f33.ntmps (loopAt Tryz.f33 0).1 (loopAt Tryz.f33 0).2 lsDEd.keep lsDEd.left K [.ptr 0 0, .ptr 1 0, .ptr 2 0, .int .i64 n] [.box [.str b, .bool e], .box [.int .i64 z, .nil, .int .i64 o0, .int .i64 o1, .str o2, .nil, .str o4, .nil, .int .i64 n0, .int .i64 n1, .str n2, .nil, .str n4, .nil], .box [.int .i64 k, .nil, .int .i64 p0, .int .i64 p1, .str p2, .nil, .str p4, .nil, .int .i64 q0, .int .i64 q1, .str q2, .nil, .str q4, .nil]]) = (
Br (decide (n > (0 : Int)))
 (Br (!e)
 (Rq ([(dNum (300 : Int) (DS.mk b e)).1].length * (8 : Nat) ≤ maxSl)
 (K Ex.norm
 [AV.ptr (0 : Nat) (0 : Nat), AV.ptr ((0 : Nat) + (1 : Nat)) (0 : Nat),
 AV.ptr ((0 : Nat) + (1 : Nat) + (1 : Nat)) (0 : Nat), AV.int IntKind.i64 (IntKind.i64.wrap (n - (1 : Int)))]
 [Blk.box [AV.str (dNum (300 : Int) (DS.mk b e)).2.b, AV.bool (dNum (300 : Int) (DS.mk b e)).2.bad],
 Blk.box
 [AV.int IntKind.i64 z, AV.nil, AV.int IntKind.i64 o0, AV.int IntKind.i64 o1, AV.str o2, AV.nil, AV.str o4,
 AV.nil, AV.int IntKind.i64 n0, AV.int IntKind.i64 n1, AV.str n2, AV.nil, AV.str n4, AV.nil],
 Blk.box
 [AV.int IntKind.i64 k, AV.own ((0 : Nat) + (1 : Nat) + (1 : Nat) + (1 : Nat)) (0 : Nat),
 AV.int IntKind.i64 p0, AV.int IntKind.i64 p1, AV.str p2, AV.nil, AV.str p4, AV.nil, AV.int IntKind.i64 q0,
 AV.int IntKind.i64 q1, AV.str q2, AV.nil, AV.str q4, AV.nil],
 Blk.rowb (0 : Nat) Ty.int [(dNum (300 : Int) (DS.mk b e)).1]]))
 (K (Ex.exit (0 : Nat))
 [AV.ptr (0 : Nat) (0 : Nat), AV.ptr ((0 : Nat) + (1 : Nat)) (0 : Nat),
 AV.ptr ((0 : Nat) + (1 : Nat) + (1 : Nat)) (0 : Nat)]
 [Blk.box [AV.str b, AV.bool e],
 Blk.box
 [AV.int IntKind.i64 z, AV.nil, AV.int IntKind.i64 o0, AV.int IntKind.i64 o1, AV.str o2, AV.nil, AV.str o4,
 AV.nil, AV.int IntKind.i64 n0, AV.int IntKind.i64 n1, AV.str n2, AV.nil, AV.str n4, AV.nil],
 Blk.box
 [AV.int IntKind.i64 k, AV.nil, AV.int IntKind.i64 p0, AV.int IntKind.i64 p1, AV.str p2, AV.nil, AV.str p4,
 AV.nil, AV.int IntKind.i64 q0, AV.int IntKind.i64 q1, AV.str q2, AV.nil, AV.str q4, AV.nil]]))
 (K (Ex.exit (0 : Nat))
 [AV.ptr (0 : Nat) (0 : Nat), AV.ptr ((0 : Nat) + (1 : Nat)) (0 : Nat),
 AV.ptr ((0 : Nat) + (1 : Nat) + (1 : Nat)) (0 : Nat)]
 [Blk.box [AV.str b, AV.bool e],
 Blk.box
 [AV.int IntKind.i64 z, AV.nil, AV.int IntKind.i64 o0, AV.int IntKind.i64 o1, AV.str o2, AV.nil, AV.str o4,
 AV.nil, AV.int IntKind.i64 n0, AV.int IntKind.i64 n1, AV.str n2, AV.nil, AV.str n4, AV.nil],
 Blk.box
 [AV.int IntKind.i64 k, AV.nil, AV.int IntKind.i64 p0, AV.int IntKind.i64 p1, AV.str p2, AV.nil, AV.str p4,
 AV.nil, AV.int IntKind.i64 q0, AV.int IntKind.i64 q1, AV.str q2, AV.nil, AV.str q4, AV.nil]])) := by kernel_rfl
theorem vcDEdB1 (j : Nat) (w : List Int) (z o0 o1 n0 n1 : Int) (o2 o4 n2 n4 : ByteArray) (k p0 p1 q0 q1 : Int) (p2 p4 q2 q4 : ByteArray) (n : Int) (b : ByteArray) (e : Bool) (K : Ex → List AV → List Blk → Prop) : (bodyA (cxDEd j) (LL Tryz.f33 [lsDEd]) Tryz.f33.ntmps (loopAt Tryz.f33 0).1 (loopAt Tryz.f33 0).2 lsDEd.keep lsDEd.left K [.ptr 0 0, .ptr 1 0, .ptr 2 0, .int .i64 n] [.box [.str b, .bool e], .box [.int .i64 z, .nil, .int .i64 o0, .int .i64 o1, .str o2, .nil, .str o4, .nil, .int .i64 n0, .int .i64 n1, .str n2, .nil, .str n4, .nil], .box [.int .i64 k, .own 3 0, .int .i64 p0, .int .i64 p1, .str p2, .nil, .str p4, .nil, .int .i64 q0, .int .i64 q1, .str q2, .nil, .str q4, .nil], .rowb 0 .int w]) = (
Br (decide (n > (0 : Int)))
 (Br (!e)
 (Rq ((w.length + [(dNum (300 : Int) (DS.mk b e)).1].length) * (8 : Nat) ≤ maxSl)
 (K Ex.norm
 [AV.ptr (0 : Nat) (0 : Nat), AV.ptr ((0 : Nat) + (1 : Nat)) (0 : Nat),
 AV.ptr ((0 : Nat) + (1 : Nat) + (1 : Nat)) (0 : Nat), AV.int IntKind.i64 (IntKind.i64.wrap (n - (1 : Int)))]
 [Blk.box [AV.str (dNum (300 : Int) (DS.mk b e)).2.b, AV.bool (dNum (300 : Int) (DS.mk b e)).2.bad],
 Blk.box
 [AV.int IntKind.i64 z, AV.nil, AV.int IntKind.i64 o0, AV.int IntKind.i64 o1, AV.str o2, AV.nil, AV.str o4,
 AV.nil, AV.int IntKind.i64 n0, AV.int IntKind.i64 n1, AV.str n2, AV.nil, AV.str n4, AV.nil],
 Blk.box
 [AV.int IntKind.i64 k, AV.own ((0 : Nat) + (1 : Nat) + (1 : Nat) + (1 : Nat)) (0 : Nat),
 AV.int IntKind.i64 p0, AV.int IntKind.i64 p1, AV.str p2, AV.nil, AV.str p4, AV.nil, AV.int IntKind.i64 q0,
 AV.int IntKind.i64 q1, AV.str q2, AV.nil, AV.str q4, AV.nil],
 Blk.rowb (0 : Nat) Ty.int (w ++ [(dNum (300 : Int) (DS.mk b e)).1])]))
 (K (Ex.exit (0 : Nat))
 [AV.ptr (0 : Nat) (0 : Nat), AV.ptr ((0 : Nat) + (1 : Nat)) (0 : Nat),
 AV.ptr ((0 : Nat) + (1 : Nat) + (1 : Nat)) (0 : Nat)]
 [Blk.box [AV.str b, AV.bool e],
 Blk.box
 [AV.int IntKind.i64 z, AV.nil, AV.int IntKind.i64 o0, AV.int IntKind.i64 o1, AV.str o2, AV.nil, AV.str o4,
 AV.nil, AV.int IntKind.i64 n0, AV.int IntKind.i64 n1, AV.str n2, AV.nil, AV.str n4, AV.nil],
 Blk.box
 [AV.int IntKind.i64 k, AV.own ((0 : Nat) + (1 : Nat) + (1 : Nat) + (1 : Nat)) (0 : Nat),
 AV.int IntKind.i64 p0, AV.int IntKind.i64 p1, AV.str p2, AV.nil, AV.str p4, AV.nil, AV.int IntKind.i64 q0,
 AV.int IntKind.i64 q1, AV.str q2, AV.nil, AV.str q4, AV.nil],
 Blk.rowb (0 : Nat) Ty.int w]))
 (K (Ex.exit (0 : Nat))
 [AV.ptr (0 : Nat) (0 : Nat), AV.ptr ((0 : Nat) + (1 : Nat)) (0 : Nat),
 AV.ptr ((0 : Nat) + (1 : Nat) + (1 : Nat)) (0 : Nat)]
 [Blk.box [AV.str b, AV.bool e],
 Blk.box
 [AV.int IntKind.i64 z, AV.nil, AV.int IntKind.i64 o0, AV.int IntKind.i64 o1, AV.str o2, AV.nil, AV.str o4,
 AV.nil, AV.int IntKind.i64 n0, AV.int IntKind.i64 n1, AV.str n2, AV.nil, AV.str n4, AV.nil],
 Blk.box
 [AV.int IntKind.i64 k, AV.own ((0 : Nat) + (1 : Nat) + (1 : Nat) + (1 : Nat)) (0 : Nat), AV.int IntKind.i64 p0,
 AV.int IntKind.i64 p1, AV.str p2, AV.nil, AV.str p4, AV.nil, AV.int IntKind.i64 q0, AV.int IntKind.i64 q1,
 AV.str q2, AV.nil, AV.str q4, AV.nil],
 Blk.rowb (0 : Nat) Ty.int w])) := by kernel_rfl
theorem vcDEd0F (b : ByteArray) (e : Bool) (Q : List AV → List Blk → List Blk → Prop) : (funA (cxDEd 0) (LL Tryz.f33 [lsDEd]) Tryz.f33 [.ptr 0 0] [.box [.str b, .bool e]] [.as, .row .int, .as, .as, .as, .row .attr, .as, .row .node, .as, .as, .as, .row .attr, .as, .row .node] Q) = (
Rq
 ((0 : Int) ≤ (dNum (41 : Int) (DS.mk (dNum (4 : Int) (DS.mk b e)).2.b (dNum (4 : Int) (DS.mk b e)).2.bad)).1 ∧
 (dNum (41 : Int) (DS.mk (dNum (4 : Int) (DS.mk b e)).2.b (dNum (4 : Int) (DS.mk b e)).2.bad)).1 ≤ (41 : Int))
 (Br
 ((dWay (dNum (41 : Int) (DS.mk (dNum (4 : Int) (DS.mk b e)).2.b (dNum (4 : Int) (DS.mk b e)).2.bad)).1.toNat
 (DS.mk (dNum (41 : Int) (DS.mk (dNum (4 : Int) (DS.mk b e)).2.b (dNum (4 : Int) (DS.mk b e)).2.bad)).2.b
 (dNum (41 : Int)
 (DS.mk (dNum (4 : Int) (DS.mk b e)).2.b (dNum (4 : Int) (DS.mk b e)).2.bad)).2.bad)).1.length ==
 (0 : Nat))
 (Rq (¬((1 : Int) ≤ (dNum (4 : Int) (DS.mk b e)).1 ∧ (dNum (4 : Int) (DS.mk b e)).1 ≤ (4 : Int)))
 (Br false
 (Br
 (!(dWay (dNum (41 : Int) (DS.mk (dNum (4 : Int) (DS.mk b e)).2.b (dNum (4 : Int) (DS.mk b e)).2.bad)).1.toNat
 (DS.mk
 (dNum (41 : Int) (DS.mk (dNum (4 : Int) (DS.mk b e)).2.b (dNum (4 : Int) (DS.mk b e)).2.bad)).2.b
 (dNum (41 : Int)
 (DS.mk (dNum (4 : Int) (DS.mk b e)).2.b (dNum (4 : Int) (DS.mk b e)).2.bad)).2.bad)).2.bad)
 False
 (Q
 [AV.agg
 [AV.int IntKind.i64 (dNum (4 : Int) (DS.mk b e)).1, AV.row Ty.int [], AV.int IntKind.i64 (0 : Int),
 AV.int IntKind.i64 (0 : Int), AV.str (ByteArray.mk (Array.mk [])), AV.row Ty.attr [],
 AV.str (ByteArray.mk (Array.mk [])), AV.row Ty.node [], AV.int IntKind.i64 (0 : Int),
 AV.int IntKind.i64 (0 : Int), AV.str (ByteArray.mk (Array.mk [])), AV.row Ty.attr [],
 AV.str (ByteArray.mk (Array.mk [])), AV.row Ty.node []]]
 [Blk.box
 [AV.str
 (dWay
 (dNum (41 : Int)
 (DS.mk (dNum (4 : Int) (DS.mk b e)).2.b (dNum (4 : Int) (DS.mk b e)).2.bad)).1.toNat
 (DS.mk
 (dNum (41 : Int)
 (DS.mk (dNum (4 : Int) (DS.mk b e)).2.b (dNum (4 : Int) (DS.mk b e)).2.bad)).2.b
 (dNum (41 : Int)
 (DS.mk (dNum (4 : Int) (DS.mk b e)).2.b
 (dNum (4 : Int) (DS.mk b e)).2.bad)).2.bad)).2.b,
 AV.bool
 (dWay
 (dNum (41 : Int)
 (DS.mk (dNum (4 : Int) (DS.mk b e)).2.b (dNum (4 : Int) (DS.mk b e)).2.bad)).1.toNat
 (DS.mk
 (dNum (41 : Int)
 (DS.mk (dNum (4 : Int) (DS.mk b e)).2.b (dNum (4 : Int) (DS.mk b e)).2.bad)).2.b
 (dNum (41 : Int)
 (DS.mk (dNum (4 : Int) (DS.mk b e)).2.b
 (dNum (4 : Int) (DS.mk b e)).2.bad)).2.bad)).2.bad]]
 []))
 (Q
 [AV.agg
 [AV.int IntKind.i64 (dNum (4 : Int) (DS.mk b e)).1, AV.row Ty.int [], AV.int IntKind.i64 (0 : Int),
 AV.int IntKind.i64 (0 : Int), AV.str (ByteArray.mk (Array.mk [])), AV.row Ty.attr [],
 AV.str (ByteArray.mk (Array.mk [])), AV.row Ty.node [], AV.int IntKind.i64 (0 : Int),
 AV.int IntKind.i64 (0 : Int), AV.str (ByteArray.mk (Array.mk [])), AV.row Ty.attr [],
 AV.str (ByteArray.mk (Array.mk [])), AV.row Ty.node []]]
 [Blk.box
 [AV.str
 (dWay
 (dNum (41 : Int)
 (DS.mk (dNum (4 : Int) (DS.mk b e)).2.b (dNum (4 : Int) (DS.mk b e)).2.bad)).1.toNat
 (DS.mk
 (dNum (41 : Int)
 (DS.mk (dNum (4 : Int) (DS.mk b e)).2.b (dNum (4 : Int) (DS.mk b e)).2.bad)).2.b
 (dNum (41 : Int)
 (DS.mk (dNum (4 : Int) (DS.mk b e)).2.b
 (dNum (4 : Int) (DS.mk b e)).2.bad)).2.bad)).2.b,
 AV.bool
 (dWay
 (dNum (41 : Int)
 (DS.mk (dNum (4 : Int) (DS.mk b e)).2.b (dNum (4 : Int) (DS.mk b e)).2.bad)).1.toNat
 (DS.mk
 (dNum (41 : Int)
 (DS.mk (dNum (4 : Int) (DS.mk b e)).2.b (dNum (4 : Int) (DS.mk b e)).2.bad)).2.b
 (dNum (41 : Int)
 (DS.mk (dNum (4 : Int) (DS.mk b e)).2.b
 (dNum (4 : Int) (DS.mk b e)).2.bad)).2.bad)).2.bad]]
 [])))
 (Rq (¬((1 : Int) ≤ (dNum (4 : Int) (DS.mk b e)).1 ∧ (dNum (4 : Int) (DS.mk b e)).1 ≤ (4 : Int)))
 (Br false
 (Br
 (!(dWay (dNum (41 : Int) (DS.mk (dNum (4 : Int) (DS.mk b e)).2.b (dNum (4 : Int) (DS.mk b e)).2.bad)).1.toNat
 (DS.mk
 (dNum (41 : Int) (DS.mk (dNum (4 : Int) (DS.mk b e)).2.b (dNum (4 : Int) (DS.mk b e)).2.bad)).2.b
 (dNum (41 : Int)
 (DS.mk (dNum (4 : Int) (DS.mk b e)).2.b (dNum (4 : Int) (DS.mk b e)).2.bad)).2.bad)).2.bad)
 False
 (Q
 [AV.agg
 [AV.int IntKind.i64 (dNum (4 : Int) (DS.mk b e)).1,
 AV.row Ty.int
 (dWay
 (dNum (41 : Int)
 (DS.mk (dNum (4 : Int) (DS.mk b e)).2.b (dNum (4 : Int) (DS.mk b e)).2.bad)).1.toNat
 (DS.mk
 (dNum (41 : Int)
 (DS.mk (dNum (4 : Int) (DS.mk b e)).2.b (dNum (4 : Int) (DS.mk b e)).2.bad)).2.b
 (dNum (41 : Int)
 (DS.mk (dNum (4 : Int) (DS.mk b e)).2.b (dNum (4 : Int) (DS.mk b e)).2.bad)).2.bad)).1,
 AV.int IntKind.i64 (0 : Int), AV.int IntKind.i64 (0 : Int), AV.str (ByteArray.mk (Array.mk [])),
 AV.row Ty.attr [], AV.str (ByteArray.mk (Array.mk [])), AV.row Ty.node [],
 AV.int IntKind.i64 (0 : Int), AV.int IntKind.i64 (0 : Int), AV.str (ByteArray.mk (Array.mk [])),
 AV.row Ty.attr [], AV.str (ByteArray.mk (Array.mk [])), AV.row Ty.node []]]
 [Blk.box
 [AV.str
 (dWay
 (dNum (41 : Int)
 (DS.mk (dNum (4 : Int) (DS.mk b e)).2.b (dNum (4 : Int) (DS.mk b e)).2.bad)).1.toNat
 (DS.mk
 (dNum (41 : Int)
 (DS.mk (dNum (4 : Int) (DS.mk b e)).2.b (dNum (4 : Int) (DS.mk b e)).2.bad)).2.b
 (dNum (41 : Int)
 (DS.mk (dNum (4 : Int) (DS.mk b e)).2.b
 (dNum (4 : Int) (DS.mk b e)).2.bad)).2.bad)).2.b,
 AV.bool
 (dWay
 (dNum (41 : Int)
 (DS.mk (dNum (4 : Int) (DS.mk b e)).2.b (dNum (4 : Int) (DS.mk b e)).2.bad)).1.toNat
 (DS.mk
 (dNum (41 : Int)
 (DS.mk (dNum (4 : Int) (DS.mk b e)).2.b (dNum (4 : Int) (DS.mk b e)).2.bad)).2.b
 (dNum (41 : Int)
 (DS.mk (dNum (4 : Int) (DS.mk b e)).2.b
 (dNum (4 : Int) (DS.mk b e)).2.bad)).2.bad)).2.bad]]
 []))
 (Q
 [AV.agg
 [AV.int IntKind.i64 (dNum (4 : Int) (DS.mk b e)).1,
 AV.row Ty.int
 (dWay
 (dNum (41 : Int)
 (DS.mk (dNum (4 : Int) (DS.mk b e)).2.b (dNum (4 : Int) (DS.mk b e)).2.bad)).1.toNat
 (DS.mk
 (dNum (41 : Int)
 (DS.mk (dNum (4 : Int) (DS.mk b e)).2.b (dNum (4 : Int) (DS.mk b e)).2.bad)).2.b
 (dNum (41 : Int)
 (DS.mk (dNum (4 : Int) (DS.mk b e)).2.b (dNum (4 : Int) (DS.mk b e)).2.bad)).2.bad)).1,
 AV.int IntKind.i64 (0 : Int), AV.int IntKind.i64 (0 : Int), AV.str (ByteArray.mk (Array.mk [])),
 AV.row Ty.attr [], AV.str (ByteArray.mk (Array.mk [])), AV.row Ty.node [], AV.int IntKind.i64 (0 : Int),
 AV.int IntKind.i64 (0 : Int), AV.str (ByteArray.mk (Array.mk [])), AV.row Ty.attr [],
 AV.str (ByteArray.mk (Array.mk [])), AV.row Ty.node []]]
 [Blk.box
 [AV.str
 (dWay
 (dNum (41 : Int)
 (DS.mk (dNum (4 : Int) (DS.mk b e)).2.b (dNum (4 : Int) (DS.mk b e)).2.bad)).1.toNat
 (DS.mk
 (dNum (41 : Int)
 (DS.mk (dNum (4 : Int) (DS.mk b e)).2.b (dNum (4 : Int) (DS.mk b e)).2.bad)).2.b
 (dNum (41 : Int)
 (DS.mk (dNum (4 : Int) (DS.mk b e)).2.b
 (dNum (4 : Int) (DS.mk b e)).2.bad)).2.bad)).2.b,
 AV.bool
 (dWay
 (dNum (41 : Int)
 (DS.mk (dNum (4 : Int) (DS.mk b e)).2.b (dNum (4 : Int) (DS.mk b e)).2.bad)).1.toNat
 (DS.mk
 (dNum (41 : Int)
 (DS.mk (dNum (4 : Int) (DS.mk b e)).2.b (dNum (4 : Int) (DS.mk b e)).2.bad)).2.b
 (dNum (41 : Int)
 (DS.mk (dNum (4 : Int) (DS.mk b e)).2.b
 (dNum (4 : Int) (DS.mk b e)).2.bad)).2.bad)).2.bad]]
 []))))) := by kernel_rfl
theorem vcDEd1F (b : ByteArray) (e : Bool) (Q : List AV → List Blk → List Blk → Prop) : (funA (cxDEd 1) (LL Tryz.f33 [lsDEd]) Tryz.f33 [.ptr 0 0] [.box [.str b, .bool e]] [.as, .row .int, .as, .as, .as, .row .attr, .as, .row .node, .as, .as, .as, .row .attr, .as, .row .node] Q) = (
Rq
 ((0 : Int) ≤ (dNum (41 : Int) (DS.mk (dNum (4 : Int) (DS.mk b e)).2.b (dNum (4 : Int) (DS.mk b e)).2.bad)).1 ∧
 (dNum (41 : Int) (DS.mk (dNum (4 : Int) (DS.mk b e)).2.b (dNum (4 : Int) (DS.mk b e)).2.bad)).1 ≤ (41 : Int))
 (Br
 ((dWay (dNum (41 : Int) (DS.mk (dNum (4 : Int) (DS.mk b e)).2.b (dNum (4 : Int) (DS.mk b e)).2.bad)).1.toNat
 (DS.mk (dNum (41 : Int) (DS.mk (dNum (4 : Int) (DS.mk b e)).2.b (dNum (4 : Int) (DS.mk b e)).2.bad)).2.b
 (dNum (41 : Int)
 (DS.mk (dNum (4 : Int) (DS.mk b e)).2.b (dNum (4 : Int) (DS.mk b e)).2.bad)).2.bad)).1.length ==
 (0 : Nat))
 (Rq ((dNum (4 : Int) (DS.mk b e)).1 = (1 : Int))
 (Br true
 (Br
 (!(dWay (dNum (41 : Int) (DS.mk (dNum (4 : Int) (DS.mk b e)).2.b (dNum (4 : Int) (DS.mk b e)).2.bad)).1.toNat
 (DS.mk
 (dNum (41 : Int) (DS.mk (dNum (4 : Int) (DS.mk b e)).2.b (dNum (4 : Int) (DS.mk b e)).2.bad)).2.b
 (dNum (41 : Int)
 (DS.mk (dNum (4 : Int) (DS.mk b e)).2.b (dNum (4 : Int) (DS.mk b e)).2.bad)).2.bad)).2.bad)
 (Q
 [AV.agg
 [AV.int IntKind.i64 (dNum (4 : Int) (DS.mk b e)).1, AV.row Ty.int [], AV.int IntKind.i64 (0 : Int),
 AV.int IntKind.i64 (0 : Int), AV.str (ByteArray.mk (Array.mk [])), AV.row Ty.attr [],
 AV.str (ByteArray.mk (Array.mk [])), AV.row Ty.node [],
 AV.int IntKind.i64
 (dNode
 (DS.mk
 (dWay
 (dNum (41 : Int)
 (DS.mk (dNum (4 : Int) (DS.mk b e)).2.b
 (dNum (4 : Int) (DS.mk b e)).2.bad)).1.toNat
 (DS.mk
 (dNum (41 : Int)
 (DS.mk (dNum (4 : Int) (DS.mk b e)).2.b
 (dNum (4 : Int) (DS.mk b e)).2.bad)).2.b
 (dNum (41 : Int)
 (DS.mk (dNum (4 : Int) (DS.mk b e)).2.b
 (dNum (4 : Int) (DS.mk b e)).2.bad)).2.bad)).2.b
 (dWay
 (dNum (41 : Int)
 (DS.mk (dNum (4 : Int) (DS.mk b e)).2.b
 (dNum (4 : Int) (DS.mk b e)).2.bad)).1.toNat
 (DS.mk
 (dNum (41 : Int)
 (DS.mk (dNum (4 : Int) (DS.mk b e)).2.b
 (dNum (4 : Int) (DS.mk b e)).2.bad)).2.b
 (dNum (41 : Int)
 (DS.mk (dNum (4 : Int) (DS.mk b e)).2.b
 (dNum (4 : Int) (DS.mk b e)).2.bad)).2.bad)).2.bad)).1.1,
 AV.int IntKind.i64
 (dNode
 (DS.mk
 (dWay
 (dNum (41 : Int)
 (DS.mk (dNum (4 : Int) (DS.mk b e)).2.b
 (dNum (4 : Int) (DS.mk b e)).2.bad)).1.toNat
 (DS.mk
 (dNum (41 : Int)
 (DS.mk (dNum (4 : Int) (DS.mk b e)).2.b
 (dNum (4 : Int) (DS.mk b e)).2.bad)).2.b
 (dNum (41 : Int)
 (DS.mk (dNum (4 : Int) (DS.mk b e)).2.b
 (dNum (4 : Int) (DS.mk b e)).2.bad)).2.bad)).2.b
 (dWay
 (dNum (41 : Int)
 (DS.mk (dNum (4 : Int) (DS.mk b e)).2.b
 (dNum (4 : Int) (DS.mk b e)).2.bad)).1.toNat
 (DS.mk
 (dNum (41 : Int)
 (DS.mk (dNum (4 : Int) (DS.mk b e)).2.b
 (dNum (4 : Int) (DS.mk b e)).2.bad)).2.b
 (dNum (41 : Int)
 (DS.mk (dNum (4 : Int) (DS.mk b e)).2.b
 (dNum (4 : Int) (DS.mk b e)).2.bad)).2.bad)).2.bad)).1.2,
 AV.str
 (dNode
 (DS.mk
 (dWay
 (dNum (41 : Int)
 (DS.mk (dNum (4 : Int) (DS.mk b e)).2.b
 (dNum (4 : Int) (DS.mk b e)).2.bad)).1.toNat
 (DS.mk
 (dNum (41 : Int)
 (DS.mk (dNum (4 : Int) (DS.mk b e)).2.b
 (dNum (4 : Int) (DS.mk b e)).2.bad)).2.b
 (dNum (41 : Int)
 (DS.mk (dNum (4 : Int) (DS.mk b e)).2.b
 (dNum (4 : Int) (DS.mk b e)).2.bad)).2.bad)).2.b
 (dWay
 (dNum (41 : Int)
 (DS.mk (dNum (4 : Int) (DS.mk b e)).2.b
 (dNum (4 : Int) (DS.mk b e)).2.bad)).1.toNat
 (DS.mk
 (dNum (41 : Int)
 (DS.mk (dNum (4 : Int) (DS.mk b e)).2.b
 (dNum (4 : Int) (DS.mk b e)).2.bad)).2.b
 (dNum (41 : Int)
 (DS.mk (dNum (4 : Int) (DS.mk b e)).2.b
 (dNum (4 : Int) (DS.mk b e)).2.bad)).2.bad)).2.bad)).1.3,
 AV.row Ty.attr
 (dNode
 (DS.mk
 (dWay
 (dNum (41 : Int)
 (DS.mk (dNum (4 : Int) (DS.mk b e)).2.b
 (dNum (4 : Int) (DS.mk b e)).2.bad)).1.toNat
 (DS.mk
 (dNum (41 : Int)
 (DS.mk (dNum (4 : Int) (DS.mk b e)).2.b
 (dNum (4 : Int) (DS.mk b e)).2.bad)).2.b
 (dNum (41 : Int)
 (DS.mk (dNum (4 : Int) (DS.mk b e)).2.b
 (dNum (4 : Int) (DS.mk b e)).2.bad)).2.bad)).2.b
 (dWay
 (dNum (41 : Int)
 (DS.mk (dNum (4 : Int) (DS.mk b e)).2.b
 (dNum (4 : Int) (DS.mk b e)).2.bad)).1.toNat
 (DS.mk
 (dNum (41 : Int)
 (DS.mk (dNum (4 : Int) (DS.mk b e)).2.b
 (dNum (4 : Int) (DS.mk b e)).2.bad)).2.b
 (dNum (41 : Int)
 (DS.mk (dNum (4 : Int) (DS.mk b e)).2.b
 (dNum (4 : Int) (DS.mk b e)).2.bad)).2.bad)).2.bad)).1.4,
 AV.str
 (dNode
 (DS.mk
 (dWay
 (dNum (41 : Int)
 (DS.mk (dNum (4 : Int) (DS.mk b e)).2.b
 (dNum (4 : Int) (DS.mk b e)).2.bad)).1.toNat
 (DS.mk
 (dNum (41 : Int)
 (DS.mk (dNum (4 : Int) (DS.mk b e)).2.b
 (dNum (4 : Int) (DS.mk b e)).2.bad)).2.b
 (dNum (41 : Int)
 (DS.mk (dNum (4 : Int) (DS.mk b e)).2.b
 (dNum (4 : Int) (DS.mk b e)).2.bad)).2.bad)).2.b
 (dWay
 (dNum (41 : Int)
 (DS.mk (dNum (4 : Int) (DS.mk b e)).2.b
 (dNum (4 : Int) (DS.mk b e)).2.bad)).1.toNat
 (DS.mk
 (dNum (41 : Int)
 (DS.mk (dNum (4 : Int) (DS.mk b e)).2.b
 (dNum (4 : Int) (DS.mk b e)).2.bad)).2.b
 (dNum (41 : Int)
 (DS.mk (dNum (4 : Int) (DS.mk b e)).2.b
 (dNum (4 : Int) (DS.mk b e)).2.bad)).2.bad)).2.bad)).1.5,
 AV.row Ty.node
 (dNode
 (DS.mk
 (dWay
 (dNum (41 : Int)
 (DS.mk (dNum (4 : Int) (DS.mk b e)).2.b
 (dNum (4 : Int) (DS.mk b e)).2.bad)).1.toNat
 (DS.mk
 (dNum (41 : Int)
 (DS.mk (dNum (4 : Int) (DS.mk b e)).2.b
 (dNum (4 : Int) (DS.mk b e)).2.bad)).2.b
 (dNum (41 : Int)
 (DS.mk (dNum (4 : Int) (DS.mk b e)).2.b
 (dNum (4 : Int) (DS.mk b e)).2.bad)).2.bad)).2.b
 (dWay
 (dNum (41 : Int)
 (DS.mk (dNum (4 : Int) (DS.mk b e)).2.b
 (dNum (4 : Int) (DS.mk b e)).2.bad)).1.toNat
 (DS.mk
 (dNum (41 : Int)
 (DS.mk (dNum (4 : Int) (DS.mk b e)).2.b
 (dNum (4 : Int) (DS.mk b e)).2.bad)).2.b
 (dNum (41 : Int)
 (DS.mk (dNum (4 : Int) (DS.mk b e)).2.b
 (dNum (4 : Int) (DS.mk b e)).2.bad)).2.bad)).2.bad)).1.6]]
 [Blk.box
 [AV.str
 (dNode
 (DS.mk
 (dWay
 (dNum (41 : Int)
 (DS.mk (dNum (4 : Int) (DS.mk b e)).2.b
 (dNum (4 : Int) (DS.mk b e)).2.bad)).1.toNat
 (DS.mk
 (dNum (41 : Int)
 (DS.mk (dNum (4 : Int) (DS.mk b e)).2.b
 (dNum (4 : Int) (DS.mk b e)).2.bad)).2.b
 (dNum (41 : Int)
 (DS.mk (dNum (4 : Int) (DS.mk b e)).2.b
 (dNum (4 : Int) (DS.mk b e)).2.bad)).2.bad)).2.b
 (dWay
 (dNum (41 : Int)
 (DS.mk (dNum (4 : Int) (DS.mk b e)).2.b
 (dNum (4 : Int) (DS.mk b e)).2.bad)).1.toNat
 (DS.mk
 (dNum (41 : Int)
 (DS.mk (dNum (4 : Int) (DS.mk b e)).2.b
 (dNum (4 : Int) (DS.mk b e)).2.bad)).2.b
 (dNum (41 : Int)
 (DS.mk (dNum (4 : Int) (DS.mk b e)).2.b
 (dNum (4 : Int) (DS.mk b e)).2.bad)).2.bad)).2.bad)).2.b,
 AV.bool
 (dNode
 (DS.mk
 (dWay
 (dNum (41 : Int)
 (DS.mk (dNum (4 : Int) (DS.mk b e)).2.b
 (dNum (4 : Int) (DS.mk b e)).2.bad)).1.toNat
 (DS.mk
 (dNum (41 : Int)
 (DS.mk (dNum (4 : Int) (DS.mk b e)).2.b
 (dNum (4 : Int) (DS.mk b e)).2.bad)).2.b
 (dNum (41 : Int)
 (DS.mk (dNum (4 : Int) (DS.mk b e)).2.b
 (dNum (4 : Int) (DS.mk b e)).2.bad)).2.bad)).2.b
 (dWay
 (dNum (41 : Int)
 (DS.mk (dNum (4 : Int) (DS.mk b e)).2.b
 (dNum (4 : Int) (DS.mk b e)).2.bad)).1.toNat
 (DS.mk
 (dNum (41 : Int)
 (DS.mk (dNum (4 : Int) (DS.mk b e)).2.b
 (dNum (4 : Int) (DS.mk b e)).2.bad)).2.b
 (dNum (41 : Int)
 (DS.mk (dNum (4 : Int) (DS.mk b e)).2.b
 (dNum (4 : Int) (DS.mk b e)).2.bad)).2.bad)).2.bad)).2.bad]]
 [])
 (Q
 [AV.agg
 [AV.int IntKind.i64 (dNum (4 : Int) (DS.mk b e)).1, AV.row Ty.int [], AV.int IntKind.i64 (0 : Int),
 AV.int IntKind.i64 (0 : Int), AV.str (ByteArray.mk (Array.mk [])), AV.row Ty.attr [],
 AV.str (ByteArray.mk (Array.mk [])), AV.row Ty.node [], AV.int IntKind.i64 (0 : Int),
 AV.int IntKind.i64 (0 : Int), AV.str (ByteArray.mk (Array.mk [])), AV.row Ty.attr [],
 AV.str (ByteArray.mk (Array.mk [])), AV.row Ty.node []]]
 [Blk.box
 [AV.str
 (dWay
 (dNum (41 : Int)
 (DS.mk (dNum (4 : Int) (DS.mk b e)).2.b (dNum (4 : Int) (DS.mk b e)).2.bad)).1.toNat
 (DS.mk
 (dNum (41 : Int)
 (DS.mk (dNum (4 : Int) (DS.mk b e)).2.b (dNum (4 : Int) (DS.mk b e)).2.bad)).2.b
 (dNum (41 : Int)
 (DS.mk (dNum (4 : Int) (DS.mk b e)).2.b
 (dNum (4 : Int) (DS.mk b e)).2.bad)).2.bad)).2.b,
 AV.bool
 (dWay
 (dNum (41 : Int)
 (DS.mk (dNum (4 : Int) (DS.mk b e)).2.b (dNum (4 : Int) (DS.mk b e)).2.bad)).1.toNat
 (DS.mk
 (dNum (41 : Int)
 (DS.mk (dNum (4 : Int) (DS.mk b e)).2.b (dNum (4 : Int) (DS.mk b e)).2.bad)).2.b
 (dNum (41 : Int)
 (DS.mk (dNum (4 : Int) (DS.mk b e)).2.b
 (dNum (4 : Int) (DS.mk b e)).2.bad)).2.bad)).2.bad]]
 []))
 (Q
 [AV.agg
 [AV.int IntKind.i64 (dNum (4 : Int) (DS.mk b e)).1, AV.row Ty.int [], AV.int IntKind.i64 (0 : Int),
 AV.int IntKind.i64 (0 : Int), AV.str (ByteArray.mk (Array.mk [])), AV.row Ty.attr [],
 AV.str (ByteArray.mk (Array.mk [])), AV.row Ty.node [], AV.int IntKind.i64 (0 : Int),
 AV.int IntKind.i64 (0 : Int), AV.str (ByteArray.mk (Array.mk [])), AV.row Ty.attr [],
 AV.str (ByteArray.mk (Array.mk [])), AV.row Ty.node []]]
 [Blk.box
 [AV.str
 (dWay
 (dNum (41 : Int)
 (DS.mk (dNum (4 : Int) (DS.mk b e)).2.b (dNum (4 : Int) (DS.mk b e)).2.bad)).1.toNat
 (DS.mk
 (dNum (41 : Int)
 (DS.mk (dNum (4 : Int) (DS.mk b e)).2.b (dNum (4 : Int) (DS.mk b e)).2.bad)).2.b
 (dNum (41 : Int)
 (DS.mk (dNum (4 : Int) (DS.mk b e)).2.b
 (dNum (4 : Int) (DS.mk b e)).2.bad)).2.bad)).2.b,
 AV.bool
 (dWay
 (dNum (41 : Int)
 (DS.mk (dNum (4 : Int) (DS.mk b e)).2.b (dNum (4 : Int) (DS.mk b e)).2.bad)).1.toNat
 (DS.mk
 (dNum (41 : Int)
 (DS.mk (dNum (4 : Int) (DS.mk b e)).2.b (dNum (4 : Int) (DS.mk b e)).2.bad)).2.b
 (dNum (41 : Int)
 (DS.mk (dNum (4 : Int) (DS.mk b e)).2.b
 (dNum (4 : Int) (DS.mk b e)).2.bad)).2.bad)).2.bad]]
 [])))
 (Rq ((dNum (4 : Int) (DS.mk b e)).1 = (1 : Int))
 (Br true
 (Br
 (!(dWay (dNum (41 : Int) (DS.mk (dNum (4 : Int) (DS.mk b e)).2.b (dNum (4 : Int) (DS.mk b e)).2.bad)).1.toNat
 (DS.mk
 (dNum (41 : Int) (DS.mk (dNum (4 : Int) (DS.mk b e)).2.b (dNum (4 : Int) (DS.mk b e)).2.bad)).2.b
 (dNum (41 : Int)
 (DS.mk (dNum (4 : Int) (DS.mk b e)).2.b (dNum (4 : Int) (DS.mk b e)).2.bad)).2.bad)).2.bad)
 (Q
 [AV.agg
 [AV.int IntKind.i64 (dNum (4 : Int) (DS.mk b e)).1,
 AV.row Ty.int
 (dWay
 (dNum (41 : Int)
 (DS.mk (dNum (4 : Int) (DS.mk b e)).2.b (dNum (4 : Int) (DS.mk b e)).2.bad)).1.toNat
 (DS.mk
 (dNum (41 : Int)
 (DS.mk (dNum (4 : Int) (DS.mk b e)).2.b (dNum (4 : Int) (DS.mk b e)).2.bad)).2.b
 (dNum (41 : Int)
 (DS.mk (dNum (4 : Int) (DS.mk b e)).2.b (dNum (4 : Int) (DS.mk b e)).2.bad)).2.bad)).1,
 AV.int IntKind.i64 (0 : Int), AV.int IntKind.i64 (0 : Int), AV.str (ByteArray.mk (Array.mk [])),
 AV.row Ty.attr [], AV.str (ByteArray.mk (Array.mk [])), AV.row Ty.node [],
 AV.int IntKind.i64
 (dNode
 (DS.mk
 (dWay
 (dNum (41 : Int)
 (DS.mk (dNum (4 : Int) (DS.mk b e)).2.b
 (dNum (4 : Int) (DS.mk b e)).2.bad)).1.toNat
 (DS.mk
 (dNum (41 : Int)
 (DS.mk (dNum (4 : Int) (DS.mk b e)).2.b
 (dNum (4 : Int) (DS.mk b e)).2.bad)).2.b
 (dNum (41 : Int)
 (DS.mk (dNum (4 : Int) (DS.mk b e)).2.b
 (dNum (4 : Int) (DS.mk b e)).2.bad)).2.bad)).2.b
 (dWay
 (dNum (41 : Int)
 (DS.mk (dNum (4 : Int) (DS.mk b e)).2.b
 (dNum (4 : Int) (DS.mk b e)).2.bad)).1.toNat
 (DS.mk
 (dNum (41 : Int)
 (DS.mk (dNum (4 : Int) (DS.mk b e)).2.b
 (dNum (4 : Int) (DS.mk b e)).2.bad)).2.b
 (dNum (41 : Int)
 (DS.mk (dNum (4 : Int) (DS.mk b e)).2.b
 (dNum (4 : Int) (DS.mk b e)).2.bad)).2.bad)).2.bad)).1.1,
 AV.int IntKind.i64
 (dNode
 (DS.mk
 (dWay
 (dNum (41 : Int)
 (DS.mk (dNum (4 : Int) (DS.mk b e)).2.b
 (dNum (4 : Int) (DS.mk b e)).2.bad)).1.toNat
 (DS.mk
 (dNum (41 : Int)
 (DS.mk (dNum (4 : Int) (DS.mk b e)).2.b
 (dNum (4 : Int) (DS.mk b e)).2.bad)).2.b
 (dNum (41 : Int)
 (DS.mk (dNum (4 : Int) (DS.mk b e)).2.b
 (dNum (4 : Int) (DS.mk b e)).2.bad)).2.bad)).2.b
 (dWay
 (dNum (41 : Int)
 (DS.mk (dNum (4 : Int) (DS.mk b e)).2.b
 (dNum (4 : Int) (DS.mk b e)).2.bad)).1.toNat
 (DS.mk
 (dNum (41 : Int)
 (DS.mk (dNum (4 : Int) (DS.mk b e)).2.b
 (dNum (4 : Int) (DS.mk b e)).2.bad)).2.b
 (dNum (41 : Int)
 (DS.mk (dNum (4 : Int) (DS.mk b e)).2.b
 (dNum (4 : Int) (DS.mk b e)).2.bad)).2.bad)).2.bad)).1.2,
 AV.str
 (dNode
 (DS.mk
 (dWay
 (dNum (41 : Int)
 (DS.mk (dNum (4 : Int) (DS.mk b e)).2.b
 (dNum (4 : Int) (DS.mk b e)).2.bad)).1.toNat
 (DS.mk
 (dNum (41 : Int)
 (DS.mk (dNum (4 : Int) (DS.mk b e)).2.b
 (dNum (4 : Int) (DS.mk b e)).2.bad)).2.b
 (dNum (41 : Int)
 (DS.mk (dNum (4 : Int) (DS.mk b e)).2.b
 (dNum (4 : Int) (DS.mk b e)).2.bad)).2.bad)).2.b
 (dWay
 (dNum (41 : Int)
 (DS.mk (dNum (4 : Int) (DS.mk b e)).2.b
 (dNum (4 : Int) (DS.mk b e)).2.bad)).1.toNat
 (DS.mk
 (dNum (41 : Int)
 (DS.mk (dNum (4 : Int) (DS.mk b e)).2.b
 (dNum (4 : Int) (DS.mk b e)).2.bad)).2.b
 (dNum (41 : Int)
 (DS.mk (dNum (4 : Int) (DS.mk b e)).2.b
 (dNum (4 : Int) (DS.mk b e)).2.bad)).2.bad)).2.bad)).1.3,
 AV.row Ty.attr
 (dNode
 (DS.mk
 (dWay
 (dNum (41 : Int)
 (DS.mk (dNum (4 : Int) (DS.mk b e)).2.b
 (dNum (4 : Int) (DS.mk b e)).2.bad)).1.toNat
 (DS.mk
 (dNum (41 : Int)
 (DS.mk (dNum (4 : Int) (DS.mk b e)).2.b
 (dNum (4 : Int) (DS.mk b e)).2.bad)).2.b
 (dNum (41 : Int)
 (DS.mk (dNum (4 : Int) (DS.mk b e)).2.b
 (dNum (4 : Int) (DS.mk b e)).2.bad)).2.bad)).2.b
 (dWay
 (dNum (41 : Int)
 (DS.mk (dNum (4 : Int) (DS.mk b e)).2.b
 (dNum (4 : Int) (DS.mk b e)).2.bad)).1.toNat
 (DS.mk
 (dNum (41 : Int)
 (DS.mk (dNum (4 : Int) (DS.mk b e)).2.b
 (dNum (4 : Int) (DS.mk b e)).2.bad)).2.b
 (dNum (41 : Int)
 (DS.mk (dNum (4 : Int) (DS.mk b e)).2.b
 (dNum (4 : Int) (DS.mk b e)).2.bad)).2.bad)).2.bad)).1.4,
 AV.str
 (dNode
 (DS.mk
 (dWay
 (dNum (41 : Int)
 (DS.mk (dNum (4 : Int) (DS.mk b e)).2.b
 (dNum (4 : Int) (DS.mk b e)).2.bad)).1.toNat
 (DS.mk
 (dNum (41 : Int)
 (DS.mk (dNum (4 : Int) (DS.mk b e)).2.b
 (dNum (4 : Int) (DS.mk b e)).2.bad)).2.b
 (dNum (41 : Int)
 (DS.mk (dNum (4 : Int) (DS.mk b e)).2.b
 (dNum (4 : Int) (DS.mk b e)).2.bad)).2.bad)).2.b
 (dWay
 (dNum (41 : Int)
 (DS.mk (dNum (4 : Int) (DS.mk b e)).2.b
 (dNum (4 : Int) (DS.mk b e)).2.bad)).1.toNat
 (DS.mk
 (dNum (41 : Int)
 (DS.mk (dNum (4 : Int) (DS.mk b e)).2.b
 (dNum (4 : Int) (DS.mk b e)).2.bad)).2.b
 (dNum (41 : Int)
 (DS.mk (dNum (4 : Int) (DS.mk b e)).2.b
 (dNum (4 : Int) (DS.mk b e)).2.bad)).2.bad)).2.bad)).1.5,
 AV.row Ty.node
 (dNode
 (DS.mk
 (dWay
 (dNum (41 : Int)
 (DS.mk (dNum (4 : Int) (DS.mk b e)).2.b
 (dNum (4 : Int) (DS.mk b e)).2.bad)).1.toNat
 (DS.mk
 (dNum (41 : Int)
 (DS.mk (dNum (4 : Int) (DS.mk b e)).2.b
 (dNum (4 : Int) (DS.mk b e)).2.bad)).2.b
 (dNum (41 : Int)
 (DS.mk (dNum (4 : Int) (DS.mk b e)).2.b
 (dNum (4 : Int) (DS.mk b e)).2.bad)).2.bad)).2.b
 (dWay
 (dNum (41 : Int)
 (DS.mk (dNum (4 : Int) (DS.mk b e)).2.b
 (dNum (4 : Int) (DS.mk b e)).2.bad)).1.toNat
 (DS.mk
 (dNum (41 : Int)
 (DS.mk (dNum (4 : Int) (DS.mk b e)).2.b
 (dNum (4 : Int) (DS.mk b e)).2.bad)).2.b
 (dNum (41 : Int)
 (DS.mk (dNum (4 : Int) (DS.mk b e)).2.b
 (dNum (4 : Int) (DS.mk b e)).2.bad)).2.bad)).2.bad)).1.6]]
 [Blk.box
 [AV.str
 (dNode
 (DS.mk
 (dWay
 (dNum (41 : Int)
 (DS.mk (dNum (4 : Int) (DS.mk b e)).2.b
 (dNum (4 : Int) (DS.mk b e)).2.bad)).1.toNat
 (DS.mk
 (dNum (41 : Int)
 (DS.mk (dNum (4 : Int) (DS.mk b e)).2.b
 (dNum (4 : Int) (DS.mk b e)).2.bad)).2.b
 (dNum (41 : Int)
 (DS.mk (dNum (4 : Int) (DS.mk b e)).2.b
 (dNum (4 : Int) (DS.mk b e)).2.bad)).2.bad)).2.b
 (dWay
 (dNum (41 : Int)
 (DS.mk (dNum (4 : Int) (DS.mk b e)).2.b
 (dNum (4 : Int) (DS.mk b e)).2.bad)).1.toNat
 (DS.mk
 (dNum (41 : Int)
 (DS.mk (dNum (4 : Int) (DS.mk b e)).2.b
 (dNum (4 : Int) (DS.mk b e)).2.bad)).2.b
 (dNum (41 : Int)
 (DS.mk (dNum (4 : Int) (DS.mk b e)).2.b
 (dNum (4 : Int) (DS.mk b e)).2.bad)).2.bad)).2.bad)).2.b,
 AV.bool
 (dNode
 (DS.mk
 (dWay
 (dNum (41 : Int)
 (DS.mk (dNum (4 : Int) (DS.mk b e)).2.b
 (dNum (4 : Int) (DS.mk b e)).2.bad)).1.toNat
 (DS.mk
 (dNum (41 : Int)
 (DS.mk (dNum (4 : Int) (DS.mk b e)).2.b
 (dNum (4 : Int) (DS.mk b e)).2.bad)).2.b
 (dNum (41 : Int)
 (DS.mk (dNum (4 : Int) (DS.mk b e)).2.b
 (dNum (4 : Int) (DS.mk b e)).2.bad)).2.bad)).2.b
 (dWay
 (dNum (41 : Int)
 (DS.mk (dNum (4 : Int) (DS.mk b e)).2.b
 (dNum (4 : Int) (DS.mk b e)).2.bad)).1.toNat
 (DS.mk
 (dNum (41 : Int)
 (DS.mk (dNum (4 : Int) (DS.mk b e)).2.b
 (dNum (4 : Int) (DS.mk b e)).2.bad)).2.b
 (dNum (41 : Int)
 (DS.mk (dNum (4 : Int) (DS.mk b e)).2.b
 (dNum (4 : Int) (DS.mk b e)).2.bad)).2.bad)).2.bad)).2.bad]]
 [])
 (Q
 [AV.agg
 [AV.int IntKind.i64 (dNum (4 : Int) (DS.mk b e)).1,
 AV.row Ty.int
 (dWay
 (dNum (41 : Int)
 (DS.mk (dNum (4 : Int) (DS.mk b e)).2.b (dNum (4 : Int) (DS.mk b e)).2.bad)).1.toNat
 (DS.mk
 (dNum (41 : Int)
 (DS.mk (dNum (4 : Int) (DS.mk b e)).2.b (dNum (4 : Int) (DS.mk b e)).2.bad)).2.b
 (dNum (41 : Int)
 (DS.mk (dNum (4 : Int) (DS.mk b e)).2.b (dNum (4 : Int) (DS.mk b e)).2.bad)).2.bad)).1,
 AV.int IntKind.i64 (0 : Int), AV.int IntKind.i64 (0 : Int), AV.str (ByteArray.mk (Array.mk [])),
 AV.row Ty.attr [], AV.str (ByteArray.mk (Array.mk [])), AV.row Ty.node [],
 AV.int IntKind.i64 (0 : Int), AV.int IntKind.i64 (0 : Int), AV.str (ByteArray.mk (Array.mk [])),
 AV.row Ty.attr [], AV.str (ByteArray.mk (Array.mk [])), AV.row Ty.node []]]
 [Blk.box
 [AV.str
 (dWay
 (dNum (41 : Int)
 (DS.mk (dNum (4 : Int) (DS.mk b e)).2.b (dNum (4 : Int) (DS.mk b e)).2.bad)).1.toNat
 (DS.mk
 (dNum (41 : Int)
 (DS.mk (dNum (4 : Int) (DS.mk b e)).2.b (dNum (4 : Int) (DS.mk b e)).2.bad)).2.b
 (dNum (41 : Int)
 (DS.mk (dNum (4 : Int) (DS.mk b e)).2.b
 (dNum (4 : Int) (DS.mk b e)).2.bad)).2.bad)).2.b,
 AV.bool
 (dWay
 (dNum (41 : Int)
 (DS.mk (dNum (4 : Int) (DS.mk b e)).2.b (dNum (4 : Int) (DS.mk b e)).2.bad)).1.toNat
 (DS.mk
 (dNum (41 : Int)
 (DS.mk (dNum (4 : Int) (DS.mk b e)).2.b (dNum (4 : Int) (DS.mk b e)).2.bad)).2.b
 (dNum (41 : Int)
 (DS.mk (dNum (4 : Int) (DS.mk b e)).2.b
 (dNum (4 : Int) (DS.mk b e)).2.bad)).2.bad)).2.bad]]
 []))
 (Q
 [AV.agg
 [AV.int IntKind.i64 (dNum (4 : Int) (DS.mk b e)).1,
 AV.row Ty.int
 (dWay
 (dNum (41 : Int)
 (DS.mk (dNum (4 : Int) (DS.mk b e)).2.b (dNum (4 : Int) (DS.mk b e)).2.bad)).1.toNat
 (DS.mk
 (dNum (41 : Int)
 (DS.mk (dNum (4 : Int) (DS.mk b e)).2.b (dNum (4 : Int) (DS.mk b e)).2.bad)).2.b
 (dNum (41 : Int)
 (DS.mk (dNum (4 : Int) (DS.mk b e)).2.b (dNum (4 : Int) (DS.mk b e)).2.bad)).2.bad)).1,
 AV.int IntKind.i64 (0 : Int), AV.int IntKind.i64 (0 : Int), AV.str (ByteArray.mk (Array.mk [])),
 AV.row Ty.attr [], AV.str (ByteArray.mk (Array.mk [])), AV.row Ty.node [], AV.int IntKind.i64 (0 : Int),
 AV.int IntKind.i64 (0 : Int), AV.str (ByteArray.mk (Array.mk [])), AV.row Ty.attr [],
 AV.str (ByteArray.mk (Array.mk [])), AV.row Ty.node []]]
 [Blk.box
 [AV.str
 (dWay
 (dNum (41 : Int)
 (DS.mk (dNum (4 : Int) (DS.mk b e)).2.b (dNum (4 : Int) (DS.mk b e)).2.bad)).1.toNat
 (DS.mk
 (dNum (41 : Int)
 (DS.mk (dNum (4 : Int) (DS.mk b e)).2.b (dNum (4 : Int) (DS.mk b e)).2.bad)).2.b
 (dNum (41 : Int)
 (DS.mk (dNum (4 : Int) (DS.mk b e)).2.b
 (dNum (4 : Int) (DS.mk b e)).2.bad)).2.bad)).2.b,
 AV.bool
 (dWay
 (dNum (41 : Int)
 (DS.mk (dNum (4 : Int) (DS.mk b e)).2.b (dNum (4 : Int) (DS.mk b e)).2.bad)).1.toNat
 (DS.mk
 (dNum (41 : Int)
 (DS.mk (dNum (4 : Int) (DS.mk b e)).2.b (dNum (4 : Int) (DS.mk b e)).2.bad)).2.b
 (dNum (41 : Int)
 (DS.mk (dNum (4 : Int) (DS.mk b e)).2.b
 (dNum (4 : Int) (DS.mk b e)).2.bad)).2.bad)).2.bad]]
 []))))) := by kernel_rfl
theorem vcDEd2F (b : ByteArray) (e : Bool) (Q : List AV → List Blk → List Blk → Prop) : (funA (cxDEd 2) (LL Tryz.f33 [lsDEd]) Tryz.f33 [.ptr 0 0] [.box [.str b, .bool e]] [.as, .row .int, .as, .as, .as, .row .attr, .as, .row .node, .as, .as, .as, .row .attr, .as, .row .node] Q) = (
Rq
 ((0 : Int) ≤ (dNum (41 : Int) (DS.mk (dNum (4 : Int) (DS.mk b e)).2.b (dNum (4 : Int) (DS.mk b e)).2.bad)).1 ∧
 (dNum (41 : Int) (DS.mk (dNum (4 : Int) (DS.mk b e)).2.b (dNum (4 : Int) (DS.mk b e)).2.bad)).1 ≤ (41 : Int))
 (Br
 ((dWay (dNum (41 : Int) (DS.mk (dNum (4 : Int) (DS.mk b e)).2.b (dNum (4 : Int) (DS.mk b e)).2.bad)).1.toNat
 (DS.mk (dNum (41 : Int) (DS.mk (dNum (4 : Int) (DS.mk b e)).2.b (dNum (4 : Int) (DS.mk b e)).2.bad)).2.b
 (dNum (41 : Int)
 (DS.mk (dNum (4 : Int) (DS.mk b e)).2.b (dNum (4 : Int) (DS.mk b e)).2.bad)).2.bad)).1.length ==
 (0 : Nat))
 (Rq ((dNum (4 : Int) (DS.mk b e)).1 = (2 : Int))
 (Br true
 (Br
 (!(dWay (dNum (41 : Int) (DS.mk (dNum (4 : Int) (DS.mk b e)).2.b (dNum (4 : Int) (DS.mk b e)).2.bad)).1.toNat
 (DS.mk
 (dNum (41 : Int) (DS.mk (dNum (4 : Int) (DS.mk b e)).2.b (dNum (4 : Int) (DS.mk b e)).2.bad)).2.b
 (dNum (41 : Int)
 (DS.mk (dNum (4 : Int) (DS.mk b e)).2.b (dNum (4 : Int) (DS.mk b e)).2.bad)).2.bad)).2.bad)
 (Q
 [AV.agg
 [AV.int IntKind.i64 (dNum (4 : Int) (DS.mk b e)).1, AV.row Ty.int [],
 AV.int IntKind.i64
 (dNode
 (DS.mk
 (dWay
 (dNum (41 : Int)
 (DS.mk (dNum (4 : Int) (DS.mk b e)).2.b
 (dNum (4 : Int) (DS.mk b e)).2.bad)).1.toNat
 (DS.mk
 (dNum (41 : Int)
 (DS.mk (dNum (4 : Int) (DS.mk b e)).2.b
 (dNum (4 : Int) (DS.mk b e)).2.bad)).2.b
 (dNum (41 : Int)
 (DS.mk (dNum (4 : Int) (DS.mk b e)).2.b
 (dNum (4 : Int) (DS.mk b e)).2.bad)).2.bad)).2.b
 (dWay
 (dNum (41 : Int)
 (DS.mk (dNum (4 : Int) (DS.mk b e)).2.b
 (dNum (4 : Int) (DS.mk b e)).2.bad)).1.toNat
 (DS.mk
 (dNum (41 : Int)
 (DS.mk (dNum (4 : Int) (DS.mk b e)).2.b
 (dNum (4 : Int) (DS.mk b e)).2.bad)).2.b
 (dNum (41 : Int)
 (DS.mk (dNum (4 : Int) (DS.mk b e)).2.b
 (dNum (4 : Int) (DS.mk b e)).2.bad)).2.bad)).2.bad)).1.1,
 AV.int IntKind.i64
 (dNode
 (DS.mk
 (dWay
 (dNum (41 : Int)
 (DS.mk (dNum (4 : Int) (DS.mk b e)).2.b
 (dNum (4 : Int) (DS.mk b e)).2.bad)).1.toNat
 (DS.mk
 (dNum (41 : Int)
 (DS.mk (dNum (4 : Int) (DS.mk b e)).2.b
 (dNum (4 : Int) (DS.mk b e)).2.bad)).2.b
 (dNum (41 : Int)
 (DS.mk (dNum (4 : Int) (DS.mk b e)).2.b
 (dNum (4 : Int) (DS.mk b e)).2.bad)).2.bad)).2.b
 (dWay
 (dNum (41 : Int)
 (DS.mk (dNum (4 : Int) (DS.mk b e)).2.b
 (dNum (4 : Int) (DS.mk b e)).2.bad)).1.toNat
 (DS.mk
 (dNum (41 : Int)
 (DS.mk (dNum (4 : Int) (DS.mk b e)).2.b
 (dNum (4 : Int) (DS.mk b e)).2.bad)).2.b
 (dNum (41 : Int)
 (DS.mk (dNum (4 : Int) (DS.mk b e)).2.b
 (dNum (4 : Int) (DS.mk b e)).2.bad)).2.bad)).2.bad)).1.2,
 AV.str
 (dNode
 (DS.mk
 (dWay
 (dNum (41 : Int)
 (DS.mk (dNum (4 : Int) (DS.mk b e)).2.b
 (dNum (4 : Int) (DS.mk b e)).2.bad)).1.toNat
 (DS.mk
 (dNum (41 : Int)
 (DS.mk (dNum (4 : Int) (DS.mk b e)).2.b
 (dNum (4 : Int) (DS.mk b e)).2.bad)).2.b
 (dNum (41 : Int)
 (DS.mk (dNum (4 : Int) (DS.mk b e)).2.b
 (dNum (4 : Int) (DS.mk b e)).2.bad)).2.bad)).2.b
 (dWay
 (dNum (41 : Int)
 (DS.mk (dNum (4 : Int) (DS.mk b e)).2.b
 (dNum (4 : Int) (DS.mk b e)).2.bad)).1.toNat
 (DS.mk
 (dNum (41 : Int)
 (DS.mk (dNum (4 : Int) (DS.mk b e)).2.b
 (dNum (4 : Int) (DS.mk b e)).2.bad)).2.b
 (dNum (41 : Int)
 (DS.mk (dNum (4 : Int) (DS.mk b e)).2.b
 (dNum (4 : Int) (DS.mk b e)).2.bad)).2.bad)).2.bad)).1.3,
 AV.row Ty.attr
 (dNode
 (DS.mk
 (dWay
 (dNum (41 : Int)
 (DS.mk (dNum (4 : Int) (DS.mk b e)).2.b
 (dNum (4 : Int) (DS.mk b e)).2.bad)).1.toNat
 (DS.mk
 (dNum (41 : Int)
 (DS.mk (dNum (4 : Int) (DS.mk b e)).2.b
 (dNum (4 : Int) (DS.mk b e)).2.bad)).2.b
 (dNum (41 : Int)
 (DS.mk (dNum (4 : Int) (DS.mk b e)).2.b
 (dNum (4 : Int) (DS.mk b e)).2.bad)).2.bad)).2.b
 (dWay
 (dNum (41 : Int)
 (DS.mk (dNum (4 : Int) (DS.mk b e)).2.b
 (dNum (4 : Int) (DS.mk b e)).2.bad)).1.toNat
 (DS.mk
 (dNum (41 : Int)
 (DS.mk (dNum (4 : Int) (DS.mk b e)).2.b
 (dNum (4 : Int) (DS.mk b e)).2.bad)).2.b
 (dNum (41 : Int)
 (DS.mk (dNum (4 : Int) (DS.mk b e)).2.b
 (dNum (4 : Int) (DS.mk b e)).2.bad)).2.bad)).2.bad)).1.4,
 AV.str
 (dNode
 (DS.mk
 (dWay
 (dNum (41 : Int)
 (DS.mk (dNum (4 : Int) (DS.mk b e)).2.b
 (dNum (4 : Int) (DS.mk b e)).2.bad)).1.toNat
 (DS.mk
 (dNum (41 : Int)
 (DS.mk (dNum (4 : Int) (DS.mk b e)).2.b
 (dNum (4 : Int) (DS.mk b e)).2.bad)).2.b
 (dNum (41 : Int)
 (DS.mk (dNum (4 : Int) (DS.mk b e)).2.b
 (dNum (4 : Int) (DS.mk b e)).2.bad)).2.bad)).2.b
 (dWay
 (dNum (41 : Int)
 (DS.mk (dNum (4 : Int) (DS.mk b e)).2.b
 (dNum (4 : Int) (DS.mk b e)).2.bad)).1.toNat
 (DS.mk
 (dNum (41 : Int)
 (DS.mk (dNum (4 : Int) (DS.mk b e)).2.b
 (dNum (4 : Int) (DS.mk b e)).2.bad)).2.b
 (dNum (41 : Int)
 (DS.mk (dNum (4 : Int) (DS.mk b e)).2.b
 (dNum (4 : Int) (DS.mk b e)).2.bad)).2.bad)).2.bad)).1.5,
 AV.row Ty.node
 (dNode
 (DS.mk
 (dWay
 (dNum (41 : Int)
 (DS.mk (dNum (4 : Int) (DS.mk b e)).2.b
 (dNum (4 : Int) (DS.mk b e)).2.bad)).1.toNat
 (DS.mk
 (dNum (41 : Int)
 (DS.mk (dNum (4 : Int) (DS.mk b e)).2.b
 (dNum (4 : Int) (DS.mk b e)).2.bad)).2.b
 (dNum (41 : Int)
 (DS.mk (dNum (4 : Int) (DS.mk b e)).2.b
 (dNum (4 : Int) (DS.mk b e)).2.bad)).2.bad)).2.b
 (dWay
 (dNum (41 : Int)
 (DS.mk (dNum (4 : Int) (DS.mk b e)).2.b
 (dNum (4 : Int) (DS.mk b e)).2.bad)).1.toNat
 (DS.mk
 (dNum (41 : Int)
 (DS.mk (dNum (4 : Int) (DS.mk b e)).2.b
 (dNum (4 : Int) (DS.mk b e)).2.bad)).2.b
 (dNum (41 : Int)
 (DS.mk (dNum (4 : Int) (DS.mk b e)).2.b
 (dNum (4 : Int) (DS.mk b e)).2.bad)).2.bad)).2.bad)).1.6,
 AV.int IntKind.i64 (0 : Int), AV.int IntKind.i64 (0 : Int), AV.str (ByteArray.mk (Array.mk [])),
 AV.row Ty.attr [], AV.str (ByteArray.mk (Array.mk [])), AV.row Ty.node []]]
 [Blk.box
 [AV.str
 (dNode
 (DS.mk
 (dWay
 (dNum (41 : Int)
 (DS.mk (dNum (4 : Int) (DS.mk b e)).2.b
 (dNum (4 : Int) (DS.mk b e)).2.bad)).1.toNat
 (DS.mk
 (dNum (41 : Int)
 (DS.mk (dNum (4 : Int) (DS.mk b e)).2.b
 (dNum (4 : Int) (DS.mk b e)).2.bad)).2.b
 (dNum (41 : Int)
 (DS.mk (dNum (4 : Int) (DS.mk b e)).2.b
 (dNum (4 : Int) (DS.mk b e)).2.bad)).2.bad)).2.b
 (dWay
 (dNum (41 : Int)
 (DS.mk (dNum (4 : Int) (DS.mk b e)).2.b
 (dNum (4 : Int) (DS.mk b e)).2.bad)).1.toNat
 (DS.mk
 (dNum (41 : Int)
 (DS.mk (dNum (4 : Int) (DS.mk b e)).2.b
 (dNum (4 : Int) (DS.mk b e)).2.bad)).2.b
 (dNum (41 : Int)
 (DS.mk (dNum (4 : Int) (DS.mk b e)).2.b
 (dNum (4 : Int) (DS.mk b e)).2.bad)).2.bad)).2.bad)).2.b,
 AV.bool
 (dNode
 (DS.mk
 (dWay
 (dNum (41 : Int)
 (DS.mk (dNum (4 : Int) (DS.mk b e)).2.b
 (dNum (4 : Int) (DS.mk b e)).2.bad)).1.toNat
 (DS.mk
 (dNum (41 : Int)
 (DS.mk (dNum (4 : Int) (DS.mk b e)).2.b
 (dNum (4 : Int) (DS.mk b e)).2.bad)).2.b
 (dNum (41 : Int)
 (DS.mk (dNum (4 : Int) (DS.mk b e)).2.b
 (dNum (4 : Int) (DS.mk b e)).2.bad)).2.bad)).2.b
 (dWay
 (dNum (41 : Int)
 (DS.mk (dNum (4 : Int) (DS.mk b e)).2.b
 (dNum (4 : Int) (DS.mk b e)).2.bad)).1.toNat
 (DS.mk
 (dNum (41 : Int)
 (DS.mk (dNum (4 : Int) (DS.mk b e)).2.b
 (dNum (4 : Int) (DS.mk b e)).2.bad)).2.b
 (dNum (41 : Int)
 (DS.mk (dNum (4 : Int) (DS.mk b e)).2.b
 (dNum (4 : Int) (DS.mk b e)).2.bad)).2.bad)).2.bad)).2.bad]]
 [])
 (Q
 [AV.agg
 [AV.int IntKind.i64 (dNum (4 : Int) (DS.mk b e)).1, AV.row Ty.int [], AV.int IntKind.i64 (0 : Int),
 AV.int IntKind.i64 (0 : Int), AV.str (ByteArray.mk (Array.mk [])), AV.row Ty.attr [],
 AV.str (ByteArray.mk (Array.mk [])), AV.row Ty.node [], AV.int IntKind.i64 (0 : Int),
 AV.int IntKind.i64 (0 : Int), AV.str (ByteArray.mk (Array.mk [])), AV.row Ty.attr [],
 AV.str (ByteArray.mk (Array.mk [])), AV.row Ty.node []]]
 [Blk.box
 [AV.str
 (dWay
 (dNum (41 : Int)
 (DS.mk (dNum (4 : Int) (DS.mk b e)).2.b (dNum (4 : Int) (DS.mk b e)).2.bad)).1.toNat
 (DS.mk
 (dNum (41 : Int)
 (DS.mk (dNum (4 : Int) (DS.mk b e)).2.b (dNum (4 : Int) (DS.mk b e)).2.bad)).2.b
 (dNum (41 : Int)
 (DS.mk (dNum (4 : Int) (DS.mk b e)).2.b
 (dNum (4 : Int) (DS.mk b e)).2.bad)).2.bad)).2.b,
 AV.bool
 (dWay
 (dNum (41 : Int)
 (DS.mk (dNum (4 : Int) (DS.mk b e)).2.b (dNum (4 : Int) (DS.mk b e)).2.bad)).1.toNat
 (DS.mk
 (dNum (41 : Int)
 (DS.mk (dNum (4 : Int) (DS.mk b e)).2.b (dNum (4 : Int) (DS.mk b e)).2.bad)).2.b
 (dNum (41 : Int)
 (DS.mk (dNum (4 : Int) (DS.mk b e)).2.b
 (dNum (4 : Int) (DS.mk b e)).2.bad)).2.bad)).2.bad]]
 []))
 (Q
 [AV.agg
 [AV.int IntKind.i64 (dNum (4 : Int) (DS.mk b e)).1, AV.row Ty.int [], AV.int IntKind.i64 (0 : Int),
 AV.int IntKind.i64 (0 : Int), AV.str (ByteArray.mk (Array.mk [])), AV.row Ty.attr [],
 AV.str (ByteArray.mk (Array.mk [])), AV.row Ty.node [], AV.int IntKind.i64 (0 : Int),
 AV.int IntKind.i64 (0 : Int), AV.str (ByteArray.mk (Array.mk [])), AV.row Ty.attr [],
 AV.str (ByteArray.mk (Array.mk [])), AV.row Ty.node []]]
 [Blk.box
 [AV.str
 (dWay
 (dNum (41 : Int)
 (DS.mk (dNum (4 : Int) (DS.mk b e)).2.b (dNum (4 : Int) (DS.mk b e)).2.bad)).1.toNat
 (DS.mk
 (dNum (41 : Int)
 (DS.mk (dNum (4 : Int) (DS.mk b e)).2.b (dNum (4 : Int) (DS.mk b e)).2.bad)).2.b
 (dNum (41 : Int)
 (DS.mk (dNum (4 : Int) (DS.mk b e)).2.b
 (dNum (4 : Int) (DS.mk b e)).2.bad)).2.bad)).2.b,
 AV.bool
 (dWay
 (dNum (41 : Int)
 (DS.mk (dNum (4 : Int) (DS.mk b e)).2.b (dNum (4 : Int) (DS.mk b e)).2.bad)).1.toNat
 (DS.mk
 (dNum (41 : Int)
 (DS.mk (dNum (4 : Int) (DS.mk b e)).2.b (dNum (4 : Int) (DS.mk b e)).2.bad)).2.b
 (dNum (41 : Int)
 (DS.mk (dNum (4 : Int) (DS.mk b e)).2.b
 (dNum (4 : Int) (DS.mk b e)).2.bad)).2.bad)).2.bad]]
 [])))
 (Rq ((dNum (4 : Int) (DS.mk b e)).1 = (2 : Int))
 (Br true
 (Br
 (!(dWay (dNum (41 : Int) (DS.mk (dNum (4 : Int) (DS.mk b e)).2.b (dNum (4 : Int) (DS.mk b e)).2.bad)).1.toNat
 (DS.mk
 (dNum (41 : Int) (DS.mk (dNum (4 : Int) (DS.mk b e)).2.b (dNum (4 : Int) (DS.mk b e)).2.bad)).2.b
 (dNum (41 : Int)
 (DS.mk (dNum (4 : Int) (DS.mk b e)).2.b (dNum (4 : Int) (DS.mk b e)).2.bad)).2.bad)).2.bad)
 (Q
 [AV.agg
 [AV.int IntKind.i64 (dNum (4 : Int) (DS.mk b e)).1,
 AV.row Ty.int
 (dWay
 (dNum (41 : Int)
 (DS.mk (dNum (4 : Int) (DS.mk b e)).2.b (dNum (4 : Int) (DS.mk b e)).2.bad)).1.toNat
 (DS.mk
 (dNum (41 : Int)
 (DS.mk (dNum (4 : Int) (DS.mk b e)).2.b (dNum (4 : Int) (DS.mk b e)).2.bad)).2.b
 (dNum (41 : Int)
 (DS.mk (dNum (4 : Int) (DS.mk b e)).2.b (dNum (4 : Int) (DS.mk b e)).2.bad)).2.bad)).1,
 AV.int IntKind.i64
 (dNode
 (DS.mk
 (dWay
 (dNum (41 : Int)
 (DS.mk (dNum (4 : Int) (DS.mk b e)).2.b
 (dNum (4 : Int) (DS.mk b e)).2.bad)).1.toNat
 (DS.mk
 (dNum (41 : Int)
 (DS.mk (dNum (4 : Int) (DS.mk b e)).2.b
 (dNum (4 : Int) (DS.mk b e)).2.bad)).2.b
 (dNum (41 : Int)
 (DS.mk (dNum (4 : Int) (DS.mk b e)).2.b
 (dNum (4 : Int) (DS.mk b e)).2.bad)).2.bad)).2.b
 (dWay
 (dNum (41 : Int)
 (DS.mk (dNum (4 : Int) (DS.mk b e)).2.b
 (dNum (4 : Int) (DS.mk b e)).2.bad)).1.toNat
 (DS.mk
 (dNum (41 : Int)
 (DS.mk (dNum (4 : Int) (DS.mk b e)).2.b
 (dNum (4 : Int) (DS.mk b e)).2.bad)).2.b
 (dNum (41 : Int)
 (DS.mk (dNum (4 : Int) (DS.mk b e)).2.b
 (dNum (4 : Int) (DS.mk b e)).2.bad)).2.bad)).2.bad)).1.1,
 AV.int IntKind.i64
 (dNode
 (DS.mk
 (dWay
 (dNum (41 : Int)
 (DS.mk (dNum (4 : Int) (DS.mk b e)).2.b
 (dNum (4 : Int) (DS.mk b e)).2.bad)).1.toNat
 (DS.mk
 (dNum (41 : Int)
 (DS.mk (dNum (4 : Int) (DS.mk b e)).2.b
 (dNum (4 : Int) (DS.mk b e)).2.bad)).2.b
 (dNum (41 : Int)
 (DS.mk (dNum (4 : Int) (DS.mk b e)).2.b
 (dNum (4 : Int) (DS.mk b e)).2.bad)).2.bad)).2.b
 (dWay
 (dNum (41 : Int)
 (DS.mk (dNum (4 : Int) (DS.mk b e)).2.b
 (dNum (4 : Int) (DS.mk b e)).2.bad)).1.toNat
 (DS.mk
 (dNum (41 : Int)
 (DS.mk (dNum (4 : Int) (DS.mk b e)).2.b
 (dNum (4 : Int) (DS.mk b e)).2.bad)).2.b
 (dNum (41 : Int)
 (DS.mk (dNum (4 : Int) (DS.mk b e)).2.b
 (dNum (4 : Int) (DS.mk b e)).2.bad)).2.bad)).2.bad)).1.2,
 AV.str
 (dNode
 (DS.mk
 (dWay
 (dNum (41 : Int)
 (DS.mk (dNum (4 : Int) (DS.mk b e)).2.b
 (dNum (4 : Int) (DS.mk b e)).2.bad)).1.toNat
 (DS.mk
 (dNum (41 : Int)
 (DS.mk (dNum (4 : Int) (DS.mk b e)).2.b
 (dNum (4 : Int) (DS.mk b e)).2.bad)).2.b
 (dNum (41 : Int)
 (DS.mk (dNum (4 : Int) (DS.mk b e)).2.b
 (dNum (4 : Int) (DS.mk b e)).2.bad)).2.bad)).2.b
 (dWay
 (dNum (41 : Int)
 (DS.mk (dNum (4 : Int) (DS.mk b e)).2.b
 (dNum (4 : Int) (DS.mk b e)).2.bad)).1.toNat
 (DS.mk
 (dNum (41 : Int)
 (DS.mk (dNum (4 : Int) (DS.mk b e)).2.b
 (dNum (4 : Int) (DS.mk b e)).2.bad)).2.b
 (dNum (41 : Int)
 (DS.mk (dNum (4 : Int) (DS.mk b e)).2.b
 (dNum (4 : Int) (DS.mk b e)).2.bad)).2.bad)).2.bad)).1.3,
 AV.row Ty.attr
 (dNode
 (DS.mk
 (dWay
 (dNum (41 : Int)
 (DS.mk (dNum (4 : Int) (DS.mk b e)).2.b
 (dNum (4 : Int) (DS.mk b e)).2.bad)).1.toNat
 (DS.mk
 (dNum (41 : Int)
 (DS.mk (dNum (4 : Int) (DS.mk b e)).2.b
 (dNum (4 : Int) (DS.mk b e)).2.bad)).2.b
 (dNum (41 : Int)
 (DS.mk (dNum (4 : Int) (DS.mk b e)).2.b
 (dNum (4 : Int) (DS.mk b e)).2.bad)).2.bad)).2.b
 (dWay
 (dNum (41 : Int)
 (DS.mk (dNum (4 : Int) (DS.mk b e)).2.b
 (dNum (4 : Int) (DS.mk b e)).2.bad)).1.toNat
 (DS.mk
 (dNum (41 : Int)
 (DS.mk (dNum (4 : Int) (DS.mk b e)).2.b
 (dNum (4 : Int) (DS.mk b e)).2.bad)).2.b
 (dNum (41 : Int)
 (DS.mk (dNum (4 : Int) (DS.mk b e)).2.b
 (dNum (4 : Int) (DS.mk b e)).2.bad)).2.bad)).2.bad)).1.4,
 AV.str
 (dNode
 (DS.mk
 (dWay
 (dNum (41 : Int)
 (DS.mk (dNum (4 : Int) (DS.mk b e)).2.b
 (dNum (4 : Int) (DS.mk b e)).2.bad)).1.toNat
 (DS.mk
 (dNum (41 : Int)
 (DS.mk (dNum (4 : Int) (DS.mk b e)).2.b
 (dNum (4 : Int) (DS.mk b e)).2.bad)).2.b
 (dNum (41 : Int)
 (DS.mk (dNum (4 : Int) (DS.mk b e)).2.b
 (dNum (4 : Int) (DS.mk b e)).2.bad)).2.bad)).2.b
 (dWay
 (dNum (41 : Int)
 (DS.mk (dNum (4 : Int) (DS.mk b e)).2.b
 (dNum (4 : Int) (DS.mk b e)).2.bad)).1.toNat
 (DS.mk
 (dNum (41 : Int)
 (DS.mk (dNum (4 : Int) (DS.mk b e)).2.b
 (dNum (4 : Int) (DS.mk b e)).2.bad)).2.b
 (dNum (41 : Int)
 (DS.mk (dNum (4 : Int) (DS.mk b e)).2.b
 (dNum (4 : Int) (DS.mk b e)).2.bad)).2.bad)).2.bad)).1.5,
 AV.row Ty.node
 (dNode
 (DS.mk
 (dWay
 (dNum (41 : Int)
 (DS.mk (dNum (4 : Int) (DS.mk b e)).2.b
 (dNum (4 : Int) (DS.mk b e)).2.bad)).1.toNat
 (DS.mk
 (dNum (41 : Int)
 (DS.mk (dNum (4 : Int) (DS.mk b e)).2.b
 (dNum (4 : Int) (DS.mk b e)).2.bad)).2.b
 (dNum (41 : Int)
 (DS.mk (dNum (4 : Int) (DS.mk b e)).2.b
 (dNum (4 : Int) (DS.mk b e)).2.bad)).2.bad)).2.b
 (dWay
 (dNum (41 : Int)
 (DS.mk (dNum (4 : Int) (DS.mk b e)).2.b
 (dNum (4 : Int) (DS.mk b e)).2.bad)).1.toNat
 (DS.mk
 (dNum (41 : Int)
 (DS.mk (dNum (4 : Int) (DS.mk b e)).2.b
 (dNum (4 : Int) (DS.mk b e)).2.bad)).2.b
 (dNum (41 : Int)
 (DS.mk (dNum (4 : Int) (DS.mk b e)).2.b
 (dNum (4 : Int) (DS.mk b e)).2.bad)).2.bad)).2.bad)).1.6,
 AV.int IntKind.i64 (0 : Int), AV.int IntKind.i64 (0 : Int), AV.str (ByteArray.mk (Array.mk [])),
 AV.row Ty.attr [], AV.str (ByteArray.mk (Array.mk [])), AV.row Ty.node []]]
 [Blk.box
 [AV.str
 (dNode
 (DS.mk
 (dWay
 (dNum (41 : Int)
 (DS.mk (dNum (4 : Int) (DS.mk b e)).2.b
 (dNum (4 : Int) (DS.mk b e)).2.bad)).1.toNat
 (DS.mk
 (dNum (41 : Int)
 (DS.mk (dNum (4 : Int) (DS.mk b e)).2.b
 (dNum (4 : Int) (DS.mk b e)).2.bad)).2.b
 (dNum (41 : Int)
 (DS.mk (dNum (4 : Int) (DS.mk b e)).2.b
 (dNum (4 : Int) (DS.mk b e)).2.bad)).2.bad)).2.b
 (dWay
 (dNum (41 : Int)
 (DS.mk (dNum (4 : Int) (DS.mk b e)).2.b
 (dNum (4 : Int) (DS.mk b e)).2.bad)).1.toNat
 (DS.mk
 (dNum (41 : Int)
 (DS.mk (dNum (4 : Int) (DS.mk b e)).2.b
 (dNum (4 : Int) (DS.mk b e)).2.bad)).2.b
 (dNum (41 : Int)
 (DS.mk (dNum (4 : Int) (DS.mk b e)).2.b
 (dNum (4 : Int) (DS.mk b e)).2.bad)).2.bad)).2.bad)).2.b,
 AV.bool
 (dNode
 (DS.mk
 (dWay
 (dNum (41 : Int)
 (DS.mk (dNum (4 : Int) (DS.mk b e)).2.b
 (dNum (4 : Int) (DS.mk b e)).2.bad)).1.toNat
 (DS.mk
 (dNum (41 : Int)
 (DS.mk (dNum (4 : Int) (DS.mk b e)).2.b
 (dNum (4 : Int) (DS.mk b e)).2.bad)).2.b
 (dNum (41 : Int)
 (DS.mk (dNum (4 : Int) (DS.mk b e)).2.b
 (dNum (4 : Int) (DS.mk b e)).2.bad)).2.bad)).2.b
 (dWay
 (dNum (41 : Int)
 (DS.mk (dNum (4 : Int) (DS.mk b e)).2.b
 (dNum (4 : Int) (DS.mk b e)).2.bad)).1.toNat
 (DS.mk
 (dNum (41 : Int)
 (DS.mk (dNum (4 : Int) (DS.mk b e)).2.b
 (dNum (4 : Int) (DS.mk b e)).2.bad)).2.b
 (dNum (41 : Int)
 (DS.mk (dNum (4 : Int) (DS.mk b e)).2.b
 (dNum (4 : Int) (DS.mk b e)).2.bad)).2.bad)).2.bad)).2.bad]]
 [])
 (Q
 [AV.agg
 [AV.int IntKind.i64 (dNum (4 : Int) (DS.mk b e)).1,
 AV.row Ty.int
 (dWay
 (dNum (41 : Int)
 (DS.mk (dNum (4 : Int) (DS.mk b e)).2.b (dNum (4 : Int) (DS.mk b e)).2.bad)).1.toNat
 (DS.mk
 (dNum (41 : Int)
 (DS.mk (dNum (4 : Int) (DS.mk b e)).2.b (dNum (4 : Int) (DS.mk b e)).2.bad)).2.b
 (dNum (41 : Int)
 (DS.mk (dNum (4 : Int) (DS.mk b e)).2.b (dNum (4 : Int) (DS.mk b e)).2.bad)).2.bad)).1,
 AV.int IntKind.i64 (0 : Int), AV.int IntKind.i64 (0 : Int), AV.str (ByteArray.mk (Array.mk [])),
 AV.row Ty.attr [], AV.str (ByteArray.mk (Array.mk [])), AV.row Ty.node [],
 AV.int IntKind.i64 (0 : Int), AV.int IntKind.i64 (0 : Int), AV.str (ByteArray.mk (Array.mk [])),
 AV.row Ty.attr [], AV.str (ByteArray.mk (Array.mk [])), AV.row Ty.node []]]
 [Blk.box
 [AV.str
 (dWay
 (dNum (41 : Int)
 (DS.mk (dNum (4 : Int) (DS.mk b e)).2.b (dNum (4 : Int) (DS.mk b e)).2.bad)).1.toNat
 (DS.mk
 (dNum (41 : Int)
 (DS.mk (dNum (4 : Int) (DS.mk b e)).2.b (dNum (4 : Int) (DS.mk b e)).2.bad)).2.b
 (dNum (41 : Int)
 (DS.mk (dNum (4 : Int) (DS.mk b e)).2.b
 (dNum (4 : Int) (DS.mk b e)).2.bad)).2.bad)).2.b,
 AV.bool
 (dWay
 (dNum (41 : Int)
 (DS.mk (dNum (4 : Int) (DS.mk b e)).2.b (dNum (4 : Int) (DS.mk b e)).2.bad)).1.toNat
 (DS.mk
 (dNum (41 : Int)
 (DS.mk (dNum (4 : Int) (DS.mk b e)).2.b (dNum (4 : Int) (DS.mk b e)).2.bad)).2.b
 (dNum (41 : Int)
 (DS.mk (dNum (4 : Int) (DS.mk b e)).2.b
 (dNum (4 : Int) (DS.mk b e)).2.bad)).2.bad)).2.bad]]
 []))
 (Q
 [AV.agg
 [AV.int IntKind.i64 (dNum (4 : Int) (DS.mk b e)).1,
 AV.row Ty.int
 (dWay
 (dNum (41 : Int)
 (DS.mk (dNum (4 : Int) (DS.mk b e)).2.b (dNum (4 : Int) (DS.mk b e)).2.bad)).1.toNat
 (DS.mk
 (dNum (41 : Int)
 (DS.mk (dNum (4 : Int) (DS.mk b e)).2.b (dNum (4 : Int) (DS.mk b e)).2.bad)).2.b
 (dNum (41 : Int)
 (DS.mk (dNum (4 : Int) (DS.mk b e)).2.b (dNum (4 : Int) (DS.mk b e)).2.bad)).2.bad)).1,
 AV.int IntKind.i64 (0 : Int), AV.int IntKind.i64 (0 : Int), AV.str (ByteArray.mk (Array.mk [])),
 AV.row Ty.attr [], AV.str (ByteArray.mk (Array.mk [])), AV.row Ty.node [], AV.int IntKind.i64 (0 : Int),
 AV.int IntKind.i64 (0 : Int), AV.str (ByteArray.mk (Array.mk [])), AV.row Ty.attr [],
 AV.str (ByteArray.mk (Array.mk [])), AV.row Ty.node []]]
 [Blk.box
 [AV.str
 (dWay
 (dNum (41 : Int)
 (DS.mk (dNum (4 : Int) (DS.mk b e)).2.b (dNum (4 : Int) (DS.mk b e)).2.bad)).1.toNat
 (DS.mk
 (dNum (41 : Int)
 (DS.mk (dNum (4 : Int) (DS.mk b e)).2.b (dNum (4 : Int) (DS.mk b e)).2.bad)).2.b
 (dNum (41 : Int)
 (DS.mk (dNum (4 : Int) (DS.mk b e)).2.b
 (dNum (4 : Int) (DS.mk b e)).2.bad)).2.bad)).2.b,
 AV.bool
 (dWay
 (dNum (41 : Int)
 (DS.mk (dNum (4 : Int) (DS.mk b e)).2.b (dNum (4 : Int) (DS.mk b e)).2.bad)).1.toNat
 (DS.mk
 (dNum (41 : Int)
 (DS.mk (dNum (4 : Int) (DS.mk b e)).2.b (dNum (4 : Int) (DS.mk b e)).2.bad)).2.b
 (dNum (41 : Int)
 (DS.mk (dNum (4 : Int) (DS.mk b e)).2.b
 (dNum (4 : Int) (DS.mk b e)).2.bad)).2.bad)).2.bad]]
 []))))) := by kernel_rfl
theorem vcDEd3F (b : ByteArray) (e : Bool) (Q : List AV → List Blk → List Blk → Prop) : (funA (cxDEd 3) (LL Tryz.f33 [lsDEd]) Tryz.f33 [.ptr 0 0] [.box [.str b, .bool e]] [.as, .row .int, .as, .as, .as, .row .attr, .as, .row .node, .as, .as, .as, .row .attr, .as, .row .node] Q) = (
Rq
 ((0 : Int) ≤ (dNum (41 : Int) (DS.mk (dNum (4 : Int) (DS.mk b e)).2.b (dNum (4 : Int) (DS.mk b e)).2.bad)).1 ∧
 (dNum (41 : Int) (DS.mk (dNum (4 : Int) (DS.mk b e)).2.b (dNum (4 : Int) (DS.mk b e)).2.bad)).1 ≤ (41 : Int))
 (Br
 ((dWay (dNum (41 : Int) (DS.mk (dNum (4 : Int) (DS.mk b e)).2.b (dNum (4 : Int) (DS.mk b e)).2.bad)).1.toNat
 (DS.mk (dNum (41 : Int) (DS.mk (dNum (4 : Int) (DS.mk b e)).2.b (dNum (4 : Int) (DS.mk b e)).2.bad)).2.b
 (dNum (41 : Int)
 (DS.mk (dNum (4 : Int) (DS.mk b e)).2.b (dNum (4 : Int) (DS.mk b e)).2.bad)).2.bad)).1.length ==
 (0 : Nat))
 (Rq ((dNum (4 : Int) (DS.mk b e)).1 = (3 : Int))
 (Br true
 (Br
 (!(dWay (dNum (41 : Int) (DS.mk (dNum (4 : Int) (DS.mk b e)).2.b (dNum (4 : Int) (DS.mk b e)).2.bad)).1.toNat
 (DS.mk
 (dNum (41 : Int) (DS.mk (dNum (4 : Int) (DS.mk b e)).2.b (dNum (4 : Int) (DS.mk b e)).2.bad)).2.b
 (dNum (41 : Int)
 (DS.mk (dNum (4 : Int) (DS.mk b e)).2.b (dNum (4 : Int) (DS.mk b e)).2.bad)).2.bad)).2.bad)
 (Q
 [AV.agg
 [AV.int IntKind.i64 (dNum (4 : Int) (DS.mk b e)).1, AV.row Ty.int [], AV.int IntKind.i64 (0 : Int),
 AV.int IntKind.i64 (0 : Int), AV.str (ByteArray.mk (Array.mk [])),
 AV.row Ty.attr
 (dAts
 (DS.mk
 (dWay
 (dNum (41 : Int)
 (DS.mk (dNum (4 : Int) (DS.mk b e)).2.b
 (dNum (4 : Int) (DS.mk b e)).2.bad)).1.toNat
 (DS.mk
 (dNum (41 : Int)
 (DS.mk (dNum (4 : Int) (DS.mk b e)).2.b (dNum (4 : Int) (DS.mk b e)).2.bad)).2.b
 (dNum (41 : Int)
 (DS.mk (dNum (4 : Int) (DS.mk b e)).2.b
 (dNum (4 : Int) (DS.mk b e)).2.bad)).2.bad)).2.b
 (dWay
 (dNum (41 : Int)
 (DS.mk (dNum (4 : Int) (DS.mk b e)).2.b
 (dNum (4 : Int) (DS.mk b e)).2.bad)).1.toNat
 (DS.mk
 (dNum (41 : Int)
 (DS.mk (dNum (4 : Int) (DS.mk b e)).2.b (dNum (4 : Int) (DS.mk b e)).2.bad)).2.b
 (dNum (41 : Int)
 (DS.mk (dNum (4 : Int) (DS.mk b e)).2.b
 (dNum (4 : Int) (DS.mk b e)).2.bad)).2.bad)).2.bad)).1,
 AV.str (ByteArray.mk (Array.mk [])), AV.row Ty.node [], AV.int IntKind.i64 (0 : Int),
 AV.int IntKind.i64 (0 : Int), AV.str (ByteArray.mk (Array.mk [])),
 AV.row Ty.attr
 (dAts
 (dAts
 (DS.mk
 (dWay
 (dNum (41 : Int)
 (DS.mk (dNum (4 : Int) (DS.mk b e)).2.b
 (dNum (4 : Int) (DS.mk b e)).2.bad)).1.toNat
 (DS.mk
 (dNum (41 : Int)
 (DS.mk (dNum (4 : Int) (DS.mk b e)).2.b
 (dNum (4 : Int) (DS.mk b e)).2.bad)).2.b
 (dNum (41 : Int)
 (DS.mk (dNum (4 : Int) (DS.mk b e)).2.b
 (dNum (4 : Int) (DS.mk b e)).2.bad)).2.bad)).2.b
 (dWay
 (dNum (41 : Int)
 (DS.mk (dNum (4 : Int) (DS.mk b e)).2.b
 (dNum (4 : Int) (DS.mk b e)).2.bad)).1.toNat
 (DS.mk
 (dNum (41 : Int)
 (DS.mk (dNum (4 : Int) (DS.mk b e)).2.b
 (dNum (4 : Int) (DS.mk b e)).2.bad)).2.b
 (dNum (41 : Int)
 (DS.mk (dNum (4 : Int) (DS.mk b e)).2.b
 (dNum (4 : Int) (DS.mk b e)).2.bad)).2.bad)).2.bad)).2).1,
 AV.str (ByteArray.mk (Array.mk [])), AV.row Ty.node []]]
 [Blk.box
 [AV.str
 (dAts
 (dAts
 (DS.mk
 (dWay
 (dNum (41 : Int)
 (DS.mk (dNum (4 : Int) (DS.mk b e)).2.b
 (dNum (4 : Int) (DS.mk b e)).2.bad)).1.toNat
 (DS.mk
 (dNum (41 : Int)
 (DS.mk (dNum (4 : Int) (DS.mk b e)).2.b
 (dNum (4 : Int) (DS.mk b e)).2.bad)).2.b
 (dNum (41 : Int)
 (DS.mk (dNum (4 : Int) (DS.mk b e)).2.b
 (dNum (4 : Int) (DS.mk b e)).2.bad)).2.bad)).2.b
 (dWay
 (dNum (41 : Int)
 (DS.mk (dNum (4 : Int) (DS.mk b e)).2.b
 (dNum (4 : Int) (DS.mk b e)).2.bad)).1.toNat
 (DS.mk
 (dNum (41 : Int)
 (DS.mk (dNum (4 : Int) (DS.mk b e)).2.b
 (dNum (4 : Int) (DS.mk b e)).2.bad)).2.b
 (dNum (41 : Int)
 (DS.mk (dNum (4 : Int) (DS.mk b e)).2.b
 (dNum (4 : Int) (DS.mk b e)).2.bad)).2.bad)).2.bad)).2).2.b,
 AV.bool
 (dAts
 (dAts
 (DS.mk
 (dWay
 (dNum (41 : Int)
 (DS.mk (dNum (4 : Int) (DS.mk b e)).2.b
 (dNum (4 : Int) (DS.mk b e)).2.bad)).1.toNat
 (DS.mk
 (dNum (41 : Int)
 (DS.mk (dNum (4 : Int) (DS.mk b e)).2.b
 (dNum (4 : Int) (DS.mk b e)).2.bad)).2.b
 (dNum (41 : Int)
 (DS.mk (dNum (4 : Int) (DS.mk b e)).2.b
 (dNum (4 : Int) (DS.mk b e)).2.bad)).2.bad)).2.b
 (dWay
 (dNum (41 : Int)
 (DS.mk (dNum (4 : Int) (DS.mk b e)).2.b
 (dNum (4 : Int) (DS.mk b e)).2.bad)).1.toNat
 (DS.mk
 (dNum (41 : Int)
 (DS.mk (dNum (4 : Int) (DS.mk b e)).2.b
 (dNum (4 : Int) (DS.mk b e)).2.bad)).2.b
 (dNum (41 : Int)
 (DS.mk (dNum (4 : Int) (DS.mk b e)).2.b
 (dNum (4 : Int) (DS.mk b e)).2.bad)).2.bad)).2.bad)).2).2.bad]]
 [])
 (Q
 [AV.agg
 [AV.int IntKind.i64 (dNum (4 : Int) (DS.mk b e)).1, AV.row Ty.int [], AV.int IntKind.i64 (0 : Int),
 AV.int IntKind.i64 (0 : Int), AV.str (ByteArray.mk (Array.mk [])), AV.row Ty.attr [],
 AV.str (ByteArray.mk (Array.mk [])), AV.row Ty.node [], AV.int IntKind.i64 (0 : Int),
 AV.int IntKind.i64 (0 : Int), AV.str (ByteArray.mk (Array.mk [])), AV.row Ty.attr [],
 AV.str (ByteArray.mk (Array.mk [])), AV.row Ty.node []]]
 [Blk.box
 [AV.str
 (dWay
 (dNum (41 : Int)
 (DS.mk (dNum (4 : Int) (DS.mk b e)).2.b (dNum (4 : Int) (DS.mk b e)).2.bad)).1.toNat
 (DS.mk
 (dNum (41 : Int)
 (DS.mk (dNum (4 : Int) (DS.mk b e)).2.b (dNum (4 : Int) (DS.mk b e)).2.bad)).2.b
 (dNum (41 : Int)
 (DS.mk (dNum (4 : Int) (DS.mk b e)).2.b
 (dNum (4 : Int) (DS.mk b e)).2.bad)).2.bad)).2.b,
 AV.bool
 (dWay
 (dNum (41 : Int)
 (DS.mk (dNum (4 : Int) (DS.mk b e)).2.b (dNum (4 : Int) (DS.mk b e)).2.bad)).1.toNat
 (DS.mk
 (dNum (41 : Int)
 (DS.mk (dNum (4 : Int) (DS.mk b e)).2.b (dNum (4 : Int) (DS.mk b e)).2.bad)).2.b
 (dNum (41 : Int)
 (DS.mk (dNum (4 : Int) (DS.mk b e)).2.b
 (dNum (4 : Int) (DS.mk b e)).2.bad)).2.bad)).2.bad]]
 []))
 (Q
 [AV.agg
 [AV.int IntKind.i64 (dNum (4 : Int) (DS.mk b e)).1, AV.row Ty.int [], AV.int IntKind.i64 (0 : Int),
 AV.int IntKind.i64 (0 : Int), AV.str (ByteArray.mk (Array.mk [])), AV.row Ty.attr [],
 AV.str (ByteArray.mk (Array.mk [])), AV.row Ty.node [], AV.int IntKind.i64 (0 : Int),
 AV.int IntKind.i64 (0 : Int), AV.str (ByteArray.mk (Array.mk [])), AV.row Ty.attr [],
 AV.str (ByteArray.mk (Array.mk [])), AV.row Ty.node []]]
 [Blk.box
 [AV.str
 (dWay
 (dNum (41 : Int)
 (DS.mk (dNum (4 : Int) (DS.mk b e)).2.b (dNum (4 : Int) (DS.mk b e)).2.bad)).1.toNat
 (DS.mk
 (dNum (41 : Int)
 (DS.mk (dNum (4 : Int) (DS.mk b e)).2.b (dNum (4 : Int) (DS.mk b e)).2.bad)).2.b
 (dNum (41 : Int)
 (DS.mk (dNum (4 : Int) (DS.mk b e)).2.b
 (dNum (4 : Int) (DS.mk b e)).2.bad)).2.bad)).2.b,
 AV.bool
 (dWay
 (dNum (41 : Int)
 (DS.mk (dNum (4 : Int) (DS.mk b e)).2.b (dNum (4 : Int) (DS.mk b e)).2.bad)).1.toNat
 (DS.mk
 (dNum (41 : Int)
 (DS.mk (dNum (4 : Int) (DS.mk b e)).2.b (dNum (4 : Int) (DS.mk b e)).2.bad)).2.b
 (dNum (41 : Int)
 (DS.mk (dNum (4 : Int) (DS.mk b e)).2.b
 (dNum (4 : Int) (DS.mk b e)).2.bad)).2.bad)).2.bad]]
 [])))
 (Rq ((dNum (4 : Int) (DS.mk b e)).1 = (3 : Int))
 (Br true
 (Br
 (!(dWay (dNum (41 : Int) (DS.mk (dNum (4 : Int) (DS.mk b e)).2.b (dNum (4 : Int) (DS.mk b e)).2.bad)).1.toNat
 (DS.mk
 (dNum (41 : Int) (DS.mk (dNum (4 : Int) (DS.mk b e)).2.b (dNum (4 : Int) (DS.mk b e)).2.bad)).2.b
 (dNum (41 : Int)
 (DS.mk (dNum (4 : Int) (DS.mk b e)).2.b (dNum (4 : Int) (DS.mk b e)).2.bad)).2.bad)).2.bad)
 (Q
 [AV.agg
 [AV.int IntKind.i64 (dNum (4 : Int) (DS.mk b e)).1,
 AV.row Ty.int
 (dWay
 (dNum (41 : Int)
 (DS.mk (dNum (4 : Int) (DS.mk b e)).2.b (dNum (4 : Int) (DS.mk b e)).2.bad)).1.toNat
 (DS.mk
 (dNum (41 : Int)
 (DS.mk (dNum (4 : Int) (DS.mk b e)).2.b (dNum (4 : Int) (DS.mk b e)).2.bad)).2.b
 (dNum (41 : Int)
 (DS.mk (dNum (4 : Int) (DS.mk b e)).2.b (dNum (4 : Int) (DS.mk b e)).2.bad)).2.bad)).1,
 AV.int IntKind.i64 (0 : Int), AV.int IntKind.i64 (0 : Int), AV.str (ByteArray.mk (Array.mk [])),
 AV.row Ty.attr
 (dAts
 (DS.mk
 (dWay
 (dNum (41 : Int)
 (DS.mk (dNum (4 : Int) (DS.mk b e)).2.b
 (dNum (4 : Int) (DS.mk b e)).2.bad)).1.toNat
 (DS.mk
 (dNum (41 : Int)
 (DS.mk (dNum (4 : Int) (DS.mk b e)).2.b (dNum (4 : Int) (DS.mk b e)).2.bad)).2.b
 (dNum (41 : Int)
 (DS.mk (dNum (4 : Int) (DS.mk b e)).2.b
 (dNum (4 : Int) (DS.mk b e)).2.bad)).2.bad)).2.b
 (dWay
 (dNum (41 : Int)
 (DS.mk (dNum (4 : Int) (DS.mk b e)).2.b
 (dNum (4 : Int) (DS.mk b e)).2.bad)).1.toNat
 (DS.mk
 (dNum (41 : Int)
 (DS.mk (dNum (4 : Int) (DS.mk b e)).2.b (dNum (4 : Int) (DS.mk b e)).2.bad)).2.b
 (dNum (41 : Int)
 (DS.mk (dNum (4 : Int) (DS.mk b e)).2.b
 (dNum (4 : Int) (DS.mk b e)).2.bad)).2.bad)).2.bad)).1,
 AV.str (ByteArray.mk (Array.mk [])), AV.row Ty.node [], AV.int IntKind.i64 (0 : Int),
 AV.int IntKind.i64 (0 : Int), AV.str (ByteArray.mk (Array.mk [])),
 AV.row Ty.attr
 (dAts
 (dAts
 (DS.mk
 (dWay
 (dNum (41 : Int)
 (DS.mk (dNum (4 : Int) (DS.mk b e)).2.b
 (dNum (4 : Int) (DS.mk b e)).2.bad)).1.toNat
 (DS.mk
 (dNum (41 : Int)
 (DS.mk (dNum (4 : Int) (DS.mk b e)).2.b
 (dNum (4 : Int) (DS.mk b e)).2.bad)).2.b
 (dNum (41 : Int)
 (DS.mk (dNum (4 : Int) (DS.mk b e)).2.b
 (dNum (4 : Int) (DS.mk b e)).2.bad)).2.bad)).2.b
 (dWay
 (dNum (41 : Int)
 (DS.mk (dNum (4 : Int) (DS.mk b e)).2.b
 (dNum (4 : Int) (DS.mk b e)).2.bad)).1.toNat
 (DS.mk
 (dNum (41 : Int)
 (DS.mk (dNum (4 : Int) (DS.mk b e)).2.b
 (dNum (4 : Int) (DS.mk b e)).2.bad)).2.b
 (dNum (41 : Int)
 (DS.mk (dNum (4 : Int) (DS.mk b e)).2.b
 (dNum (4 : Int) (DS.mk b e)).2.bad)).2.bad)).2.bad)).2).1,
 AV.str (ByteArray.mk (Array.mk [])), AV.row Ty.node []]]
 [Blk.box
 [AV.str
 (dAts
 (dAts
 (DS.mk
 (dWay
 (dNum (41 : Int)
 (DS.mk (dNum (4 : Int) (DS.mk b e)).2.b
 (dNum (4 : Int) (DS.mk b e)).2.bad)).1.toNat
 (DS.mk
 (dNum (41 : Int)
 (DS.mk (dNum (4 : Int) (DS.mk b e)).2.b
 (dNum (4 : Int) (DS.mk b e)).2.bad)).2.b
 (dNum (41 : Int)
 (DS.mk (dNum (4 : Int) (DS.mk b e)).2.b
 (dNum (4 : Int) (DS.mk b e)).2.bad)).2.bad)).2.b
 (dWay
 (dNum (41 : Int)
 (DS.mk (dNum (4 : Int) (DS.mk b e)).2.b
 (dNum (4 : Int) (DS.mk b e)).2.bad)).1.toNat
 (DS.mk
 (dNum (41 : Int)
 (DS.mk (dNum (4 : Int) (DS.mk b e)).2.b
 (dNum (4 : Int) (DS.mk b e)).2.bad)).2.b
 (dNum (41 : Int)
 (DS.mk (dNum (4 : Int) (DS.mk b e)).2.b
 (dNum (4 : Int) (DS.mk b e)).2.bad)).2.bad)).2.bad)).2).2.b,
 AV.bool
 (dAts
 (dAts
 (DS.mk
 (dWay
 (dNum (41 : Int)
 (DS.mk (dNum (4 : Int) (DS.mk b e)).2.b
 (dNum (4 : Int) (DS.mk b e)).2.bad)).1.toNat
 (DS.mk
 (dNum (41 : Int)
 (DS.mk (dNum (4 : Int) (DS.mk b e)).2.b
 (dNum (4 : Int) (DS.mk b e)).2.bad)).2.b
 (dNum (41 : Int)
 (DS.mk (dNum (4 : Int) (DS.mk b e)).2.b
 (dNum (4 : Int) (DS.mk b e)).2.bad)).2.bad)).2.b
 (dWay
 (dNum (41 : Int)
 (DS.mk (dNum (4 : Int) (DS.mk b e)).2.b
 (dNum (4 : Int) (DS.mk b e)).2.bad)).1.toNat
 (DS.mk
 (dNum (41 : Int)
 (DS.mk (dNum (4 : Int) (DS.mk b e)).2.b
 (dNum (4 : Int) (DS.mk b e)).2.bad)).2.b
 (dNum (41 : Int)
 (DS.mk (dNum (4 : Int) (DS.mk b e)).2.b
 (dNum (4 : Int) (DS.mk b e)).2.bad)).2.bad)).2.bad)).2).2.bad]]
 [])
 (Q
 [AV.agg
 [AV.int IntKind.i64 (dNum (4 : Int) (DS.mk b e)).1,
 AV.row Ty.int
 (dWay
 (dNum (41 : Int)
 (DS.mk (dNum (4 : Int) (DS.mk b e)).2.b (dNum (4 : Int) (DS.mk b e)).2.bad)).1.toNat
 (DS.mk
 (dNum (41 : Int)
 (DS.mk (dNum (4 : Int) (DS.mk b e)).2.b (dNum (4 : Int) (DS.mk b e)).2.bad)).2.b
 (dNum (41 : Int)
 (DS.mk (dNum (4 : Int) (DS.mk b e)).2.b (dNum (4 : Int) (DS.mk b e)).2.bad)).2.bad)).1,
 AV.int IntKind.i64 (0 : Int), AV.int IntKind.i64 (0 : Int), AV.str (ByteArray.mk (Array.mk [])),
 AV.row Ty.attr [], AV.str (ByteArray.mk (Array.mk [])), AV.row Ty.node [],
 AV.int IntKind.i64 (0 : Int), AV.int IntKind.i64 (0 : Int), AV.str (ByteArray.mk (Array.mk [])),
 AV.row Ty.attr [], AV.str (ByteArray.mk (Array.mk [])), AV.row Ty.node []]]
 [Blk.box
 [AV.str
 (dWay
 (dNum (41 : Int)
 (DS.mk (dNum (4 : Int) (DS.mk b e)).2.b (dNum (4 : Int) (DS.mk b e)).2.bad)).1.toNat
 (DS.mk
 (dNum (41 : Int)
 (DS.mk (dNum (4 : Int) (DS.mk b e)).2.b (dNum (4 : Int) (DS.mk b e)).2.bad)).2.b
 (dNum (41 : Int)
 (DS.mk (dNum (4 : Int) (DS.mk b e)).2.b
 (dNum (4 : Int) (DS.mk b e)).2.bad)).2.bad)).2.b,
 AV.bool
 (dWay
 (dNum (41 : Int)
 (DS.mk (dNum (4 : Int) (DS.mk b e)).2.b (dNum (4 : Int) (DS.mk b e)).2.bad)).1.toNat
 (DS.mk
 (dNum (41 : Int)
 (DS.mk (dNum (4 : Int) (DS.mk b e)).2.b (dNum (4 : Int) (DS.mk b e)).2.bad)).2.b
 (dNum (41 : Int)
 (DS.mk (dNum (4 : Int) (DS.mk b e)).2.b
 (dNum (4 : Int) (DS.mk b e)).2.bad)).2.bad)).2.bad]]
 []))
 (Q
 [AV.agg
 [AV.int IntKind.i64 (dNum (4 : Int) (DS.mk b e)).1,
 AV.row Ty.int
 (dWay
 (dNum (41 : Int)
 (DS.mk (dNum (4 : Int) (DS.mk b e)).2.b (dNum (4 : Int) (DS.mk b e)).2.bad)).1.toNat
 (DS.mk
 (dNum (41 : Int)
 (DS.mk (dNum (4 : Int) (DS.mk b e)).2.b (dNum (4 : Int) (DS.mk b e)).2.bad)).2.b
 (dNum (41 : Int)
 (DS.mk (dNum (4 : Int) (DS.mk b e)).2.b (dNum (4 : Int) (DS.mk b e)).2.bad)).2.bad)).1,
 AV.int IntKind.i64 (0 : Int), AV.int IntKind.i64 (0 : Int), AV.str (ByteArray.mk (Array.mk [])),
 AV.row Ty.attr [], AV.str (ByteArray.mk (Array.mk [])), AV.row Ty.node [], AV.int IntKind.i64 (0 : Int),
 AV.int IntKind.i64 (0 : Int), AV.str (ByteArray.mk (Array.mk [])), AV.row Ty.attr [],
 AV.str (ByteArray.mk (Array.mk [])), AV.row Ty.node []]]
 [Blk.box
 [AV.str
 (dWay
 (dNum (41 : Int)
 (DS.mk (dNum (4 : Int) (DS.mk b e)).2.b (dNum (4 : Int) (DS.mk b e)).2.bad)).1.toNat
 (DS.mk
 (dNum (41 : Int)
 (DS.mk (dNum (4 : Int) (DS.mk b e)).2.b (dNum (4 : Int) (DS.mk b e)).2.bad)).2.b
 (dNum (41 : Int)
 (DS.mk (dNum (4 : Int) (DS.mk b e)).2.b
 (dNum (4 : Int) (DS.mk b e)).2.bad)).2.bad)).2.b,
 AV.bool
 (dWay
 (dNum (41 : Int)
 (DS.mk (dNum (4 : Int) (DS.mk b e)).2.b (dNum (4 : Int) (DS.mk b e)).2.bad)).1.toNat
 (DS.mk
 (dNum (41 : Int)
 (DS.mk (dNum (4 : Int) (DS.mk b e)).2.b (dNum (4 : Int) (DS.mk b e)).2.bad)).2.b
 (dNum (41 : Int)
 (DS.mk (dNum (4 : Int) (DS.mk b e)).2.b
 (dNum (4 : Int) (DS.mk b e)).2.bad)).2.bad)).2.bad]]
 []))))) := by kernel_rfl
theorem vcDEd4F (b : ByteArray) (e : Bool) (Q : List AV → List Blk → List Blk → Prop) : (funA (cxDEd 4) (LL Tryz.f33 [lsDEd]) Tryz.f33 [.ptr 0 0] [.box [.str b, .bool e]] [.as, .row .int, .as, .as, .as, .row .attr, .as, .row .node, .as, .as, .as, .row .attr, .as, .row .node] Q) = (
Rq
 ((0 : Int) ≤ (dNum (41 : Int) (DS.mk (dNum (4 : Int) (DS.mk b e)).2.b (dNum (4 : Int) (DS.mk b e)).2.bad)).1 ∧
 (dNum (41 : Int) (DS.mk (dNum (4 : Int) (DS.mk b e)).2.b (dNum (4 : Int) (DS.mk b e)).2.bad)).1 ≤ (41 : Int))
 (Br
 ((dWay (dNum (41 : Int) (DS.mk (dNum (4 : Int) (DS.mk b e)).2.b (dNum (4 : Int) (DS.mk b e)).2.bad)).1.toNat
 (DS.mk (dNum (41 : Int) (DS.mk (dNum (4 : Int) (DS.mk b e)).2.b (dNum (4 : Int) (DS.mk b e)).2.bad)).2.b
 (dNum (41 : Int)
 (DS.mk (dNum (4 : Int) (DS.mk b e)).2.b (dNum (4 : Int) (DS.mk b e)).2.bad)).2.bad)).1.length ==
 (0 : Nat))
 (Rq ((dNum (4 : Int) (DS.mk b e)).1 = (4 : Int))
 (Br true
 (Br
 (!(dWay (dNum (41 : Int) (DS.mk (dNum (4 : Int) (DS.mk b e)).2.b (dNum (4 : Int) (DS.mk b e)).2.bad)).1.toNat
 (DS.mk
 (dNum (41 : Int) (DS.mk (dNum (4 : Int) (DS.mk b e)).2.b (dNum (4 : Int) (DS.mk b e)).2.bad)).2.b
 (dNum (41 : Int)
 (DS.mk (dNum (4 : Int) (DS.mk b e)).2.b (dNum (4 : Int) (DS.mk b e)).2.bad)).2.bad)).2.bad)
 (Q
 [AV.agg
 [AV.int IntKind.i64 (dNum (4 : Int) (DS.mk b e)).1, AV.row Ty.int [], AV.int IntKind.i64 (0 : Int),
 AV.int IntKind.i64 (0 : Int), AV.str (ByteArray.mk (Array.mk [])), AV.row Ty.attr [],
 AV.str
 (ttS
 (dWay
 (dNum (41 : Int)
 (DS.mk (dNum (4 : Int) (DS.mk b e)).2.b (dNum (4 : Int) (DS.mk b e)).2.bad)).1.toNat
 (DS.mk
 (dNum (41 : Int)
 (DS.mk (dNum (4 : Int) (DS.mk b e)).2.b (dNum (4 : Int) (DS.mk b e)).2.bad)).2.b
 (dNum (41 : Int)
 (DS.mk (dNum (4 : Int) (DS.mk b e)).2.b
 (dNum (4 : Int) (DS.mk b e)).2.bad)).2.bad)).2.b),
 AV.row Ty.node [], AV.int IntKind.i64 (0 : Int), AV.int IntKind.i64 (0 : Int),
 AV.str (ByteArray.mk (Array.mk [])), AV.row Ty.attr [],
 AV.str
 (ttS
 (ttR
 (dWay
 (dNum (41 : Int)
 (DS.mk (dNum (4 : Int) (DS.mk b e)).2.b (dNum (4 : Int) (DS.mk b e)).2.bad)).1.toNat
 (DS.mk
 (dNum (41 : Int)
 (DS.mk (dNum (4 : Int) (DS.mk b e)).2.b (dNum (4 : Int) (DS.mk b e)).2.bad)).2.b
 (dNum (41 : Int)
 (DS.mk (dNum (4 : Int) (DS.mk b e)).2.b
 (dNum (4 : Int) (DS.mk b e)).2.bad)).2.bad)).2.b)),
 AV.row Ty.node []]]
 [Blk.box
 [AV.str
 (ttR
 (ttR
 (dWay
 (dNum (41 : Int)
 (DS.mk (dNum (4 : Int) (DS.mk b e)).2.b (dNum (4 : Int) (DS.mk b e)).2.bad)).1.toNat
 (DS.mk
 (dNum (41 : Int)
 (DS.mk (dNum (4 : Int) (DS.mk b e)).2.b (dNum (4 : Int) (DS.mk b e)).2.bad)).2.b
 (dNum (41 : Int)
 (DS.mk (dNum (4 : Int) (DS.mk b e)).2.b
 (dNum (4 : Int) (DS.mk b e)).2.bad)).2.bad)).2.b)),
 AV.bool
 ((dWay
 (dNum (41 : Int)
 (DS.mk (dNum (4 : Int) (DS.mk b e)).2.b (dNum (4 : Int) (DS.mk b e)).2.bad)).1.toNat
 (DS.mk
 (dNum (41 : Int)
 (DS.mk (dNum (4 : Int) (DS.mk b e)).2.b (dNum (4 : Int) (DS.mk b e)).2.bad)).2.b
 (dNum (41 : Int)
 (DS.mk (dNum (4 : Int) (DS.mk b e)).2.b
 (dNum (4 : Int) (DS.mk b e)).2.bad)).2.bad)).2.bad ||
 ttE
 (dWay
 (dNum (41 : Int)
 (DS.mk (dNum (4 : Int) (DS.mk b e)).2.b
 (dNum (4 : Int) (DS.mk b e)).2.bad)).1.toNat
 (DS.mk
 (dNum (41 : Int)
 (DS.mk (dNum (4 : Int) (DS.mk b e)).2.b
 (dNum (4 : Int) (DS.mk b e)).2.bad)).2.b
 (dNum (41 : Int)
 (DS.mk (dNum (4 : Int) (DS.mk b e)).2.b
 (dNum (4 : Int) (DS.mk b e)).2.bad)).2.bad)).2.b !=
 (0 : Int) ||
 ttE
 (ttR
 (dWay
 (dNum (41 : Int)
 (DS.mk (dNum (4 : Int) (DS.mk b e)).2.b
 (dNum (4 : Int) (DS.mk b e)).2.bad)).1.toNat
 (DS.mk
 (dNum (41 : Int)
 (DS.mk (dNum (4 : Int) (DS.mk b e)).2.b
 (dNum (4 : Int) (DS.mk b e)).2.bad)).2.b
 (dNum (41 : Int)
 (DS.mk (dNum (4 : Int) (DS.mk b e)).2.b
 (dNum (4 : Int) (DS.mk b e)).2.bad)).2.bad)).2.b) !=
 (0 : Int))]]
 [])
 (Q
 [AV.agg
 [AV.int IntKind.i64 (dNum (4 : Int) (DS.mk b e)).1, AV.row Ty.int [], AV.int IntKind.i64 (0 : Int),
 AV.int IntKind.i64 (0 : Int), AV.str (ByteArray.mk (Array.mk [])), AV.row Ty.attr [],
 AV.str (ByteArray.mk (Array.mk [])), AV.row Ty.node [], AV.int IntKind.i64 (0 : Int),
 AV.int IntKind.i64 (0 : Int), AV.str (ByteArray.mk (Array.mk [])), AV.row Ty.attr [],
 AV.str (ByteArray.mk (Array.mk [])), AV.row Ty.node []]]
 [Blk.box
 [AV.str
 (dWay
 (dNum (41 : Int)
 (DS.mk (dNum (4 : Int) (DS.mk b e)).2.b (dNum (4 : Int) (DS.mk b e)).2.bad)).1.toNat
 (DS.mk
 (dNum (41 : Int)
 (DS.mk (dNum (4 : Int) (DS.mk b e)).2.b (dNum (4 : Int) (DS.mk b e)).2.bad)).2.b
 (dNum (41 : Int)
 (DS.mk (dNum (4 : Int) (DS.mk b e)).2.b
 (dNum (4 : Int) (DS.mk b e)).2.bad)).2.bad)).2.b,
 AV.bool
 (dWay
 (dNum (41 : Int)
 (DS.mk (dNum (4 : Int) (DS.mk b e)).2.b (dNum (4 : Int) (DS.mk b e)).2.bad)).1.toNat
 (DS.mk
 (dNum (41 : Int)
 (DS.mk (dNum (4 : Int) (DS.mk b e)).2.b (dNum (4 : Int) (DS.mk b e)).2.bad)).2.b
 (dNum (41 : Int)
 (DS.mk (dNum (4 : Int) (DS.mk b e)).2.b
 (dNum (4 : Int) (DS.mk b e)).2.bad)).2.bad)).2.bad]]
 []))
 (Q
 [AV.agg
 [AV.int IntKind.i64 (dNum (4 : Int) (DS.mk b e)).1, AV.row Ty.int [], AV.int IntKind.i64 (0 : Int),
 AV.int IntKind.i64 (0 : Int), AV.str (ByteArray.mk (Array.mk [])), AV.row Ty.attr [],
 AV.str (ByteArray.mk (Array.mk [])), AV.row Ty.node [], AV.int IntKind.i64 (0 : Int),
 AV.int IntKind.i64 (0 : Int), AV.str (ByteArray.mk (Array.mk [])), AV.row Ty.attr [],
 AV.str (ByteArray.mk (Array.mk [])), AV.row Ty.node []]]
 [Blk.box
 [AV.str
 (dWay
 (dNum (41 : Int)
 (DS.mk (dNum (4 : Int) (DS.mk b e)).2.b (dNum (4 : Int) (DS.mk b e)).2.bad)).1.toNat
 (DS.mk
 (dNum (41 : Int)
 (DS.mk (dNum (4 : Int) (DS.mk b e)).2.b (dNum (4 : Int) (DS.mk b e)).2.bad)).2.b
 (dNum (41 : Int)
 (DS.mk (dNum (4 : Int) (DS.mk b e)).2.b
 (dNum (4 : Int) (DS.mk b e)).2.bad)).2.bad)).2.b,
 AV.bool
 (dWay
 (dNum (41 : Int)
 (DS.mk (dNum (4 : Int) (DS.mk b e)).2.b (dNum (4 : Int) (DS.mk b e)).2.bad)).1.toNat
 (DS.mk
 (dNum (41 : Int)
 (DS.mk (dNum (4 : Int) (DS.mk b e)).2.b (dNum (4 : Int) (DS.mk b e)).2.bad)).2.b
 (dNum (41 : Int)
 (DS.mk (dNum (4 : Int) (DS.mk b e)).2.b
 (dNum (4 : Int) (DS.mk b e)).2.bad)).2.bad)).2.bad]]
 [])))
 (Rq ((dNum (4 : Int) (DS.mk b e)).1 = (4 : Int))
 (Br true
 (Br
 (!(dWay (dNum (41 : Int) (DS.mk (dNum (4 : Int) (DS.mk b e)).2.b (dNum (4 : Int) (DS.mk b e)).2.bad)).1.toNat
 (DS.mk
 (dNum (41 : Int) (DS.mk (dNum (4 : Int) (DS.mk b e)).2.b (dNum (4 : Int) (DS.mk b e)).2.bad)).2.b
 (dNum (41 : Int)
 (DS.mk (dNum (4 : Int) (DS.mk b e)).2.b (dNum (4 : Int) (DS.mk b e)).2.bad)).2.bad)).2.bad)
 (Q
 [AV.agg
 [AV.int IntKind.i64 (dNum (4 : Int) (DS.mk b e)).1,
 AV.row Ty.int
 (dWay
 (dNum (41 : Int)
 (DS.mk (dNum (4 : Int) (DS.mk b e)).2.b (dNum (4 : Int) (DS.mk b e)).2.bad)).1.toNat
 (DS.mk
 (dNum (41 : Int)
 (DS.mk (dNum (4 : Int) (DS.mk b e)).2.b (dNum (4 : Int) (DS.mk b e)).2.bad)).2.b
 (dNum (41 : Int)
 (DS.mk (dNum (4 : Int) (DS.mk b e)).2.b (dNum (4 : Int) (DS.mk b e)).2.bad)).2.bad)).1,
 AV.int IntKind.i64 (0 : Int), AV.int IntKind.i64 (0 : Int), AV.str (ByteArray.mk (Array.mk [])),
 AV.row Ty.attr [],
 AV.str
 (ttS
 (dWay
 (dNum (41 : Int)
 (DS.mk (dNum (4 : Int) (DS.mk b e)).2.b (dNum (4 : Int) (DS.mk b e)).2.bad)).1.toNat
 (DS.mk
 (dNum (41 : Int)
 (DS.mk (dNum (4 : Int) (DS.mk b e)).2.b (dNum (4 : Int) (DS.mk b e)).2.bad)).2.b
 (dNum (41 : Int)
 (DS.mk (dNum (4 : Int) (DS.mk b e)).2.b
 (dNum (4 : Int) (DS.mk b e)).2.bad)).2.bad)).2.b),
 AV.row Ty.node [], AV.int IntKind.i64 (0 : Int), AV.int IntKind.i64 (0 : Int),
 AV.str (ByteArray.mk (Array.mk [])), AV.row Ty.attr [],
 AV.str
 (ttS
 (ttR
 (dWay
 (dNum (41 : Int)
 (DS.mk (dNum (4 : Int) (DS.mk b e)).2.b (dNum (4 : Int) (DS.mk b e)).2.bad)).1.toNat
 (DS.mk
 (dNum (41 : Int)
 (DS.mk (dNum (4 : Int) (DS.mk b e)).2.b (dNum (4 : Int) (DS.mk b e)).2.bad)).2.b
 (dNum (41 : Int)
 (DS.mk (dNum (4 : Int) (DS.mk b e)).2.b
 (dNum (4 : Int) (DS.mk b e)).2.bad)).2.bad)).2.b)),
 AV.row Ty.node []]]
 [Blk.box
 [AV.str
 (ttR
 (ttR
 (dWay
 (dNum (41 : Int)
 (DS.mk (dNum (4 : Int) (DS.mk b e)).2.b (dNum (4 : Int) (DS.mk b e)).2.bad)).1.toNat
 (DS.mk
 (dNum (41 : Int)
 (DS.mk (dNum (4 : Int) (DS.mk b e)).2.b (dNum (4 : Int) (DS.mk b e)).2.bad)).2.b
 (dNum (41 : Int)
 (DS.mk (dNum (4 : Int) (DS.mk b e)).2.b
 (dNum (4 : Int) (DS.mk b e)).2.bad)).2.bad)).2.b)),
 AV.bool
 ((dWay
 (dNum (41 : Int)
 (DS.mk (dNum (4 : Int) (DS.mk b e)).2.b (dNum (4 : Int) (DS.mk b e)).2.bad)).1.toNat
 (DS.mk
 (dNum (41 : Int)
 (DS.mk (dNum (4 : Int) (DS.mk b e)).2.b (dNum (4 : Int) (DS.mk b e)).2.bad)).2.b
 (dNum (41 : Int)
 (DS.mk (dNum (4 : Int) (DS.mk b e)).2.b
 (dNum (4 : Int) (DS.mk b e)).2.bad)).2.bad)).2.bad ||
 ttE
 (dWay
 (dNum (41 : Int)
 (DS.mk (dNum (4 : Int) (DS.mk b e)).2.b
 (dNum (4 : Int) (DS.mk b e)).2.bad)).1.toNat
 (DS.mk
 (dNum (41 : Int)
 (DS.mk (dNum (4 : Int) (DS.mk b e)).2.b
 (dNum (4 : Int) (DS.mk b e)).2.bad)).2.b
 (dNum (41 : Int)
 (DS.mk (dNum (4 : Int) (DS.mk b e)).2.b
 (dNum (4 : Int) (DS.mk b e)).2.bad)).2.bad)).2.b !=
 (0 : Int) ||
 ttE
 (ttR
 (dWay
 (dNum (41 : Int)
 (DS.mk (dNum (4 : Int) (DS.mk b e)).2.b
 (dNum (4 : Int) (DS.mk b e)).2.bad)).1.toNat
 (DS.mk
 (dNum (41 : Int)
 (DS.mk (dNum (4 : Int) (DS.mk b e)).2.b
 (dNum (4 : Int) (DS.mk b e)).2.bad)).2.b
 (dNum (41 : Int)
 (DS.mk (dNum (4 : Int) (DS.mk b e)).2.b
 (dNum (4 : Int) (DS.mk b e)).2.bad)).2.bad)).2.b) !=
 (0 : Int))]]
 [])
 (Q
 [AV.agg
 [AV.int IntKind.i64 (dNum (4 : Int) (DS.mk b e)).1,
 AV.row Ty.int
 (dWay
 (dNum (41 : Int)
 (DS.mk (dNum (4 : Int) (DS.mk b e)).2.b (dNum (4 : Int) (DS.mk b e)).2.bad)).1.toNat
 (DS.mk
 (dNum (41 : Int)
 (DS.mk (dNum (4 : Int) (DS.mk b e)).2.b (dNum (4 : Int) (DS.mk b e)).2.bad)).2.b
 (dNum (41 : Int)
 (DS.mk (dNum (4 : Int) (DS.mk b e)).2.b (dNum (4 : Int) (DS.mk b e)).2.bad)).2.bad)).1,
 AV.int IntKind.i64 (0 : Int), AV.int IntKind.i64 (0 : Int), AV.str (ByteArray.mk (Array.mk [])),
 AV.row Ty.attr [], AV.str (ByteArray.mk (Array.mk [])), AV.row Ty.node [],
 AV.int IntKind.i64 (0 : Int), AV.int IntKind.i64 (0 : Int), AV.str (ByteArray.mk (Array.mk [])),
 AV.row Ty.attr [], AV.str (ByteArray.mk (Array.mk [])), AV.row Ty.node []]]
 [Blk.box
 [AV.str
 (dWay
 (dNum (41 : Int)
 (DS.mk (dNum (4 : Int) (DS.mk b e)).2.b (dNum (4 : Int) (DS.mk b e)).2.bad)).1.toNat
 (DS.mk
 (dNum (41 : Int)
 (DS.mk (dNum (4 : Int) (DS.mk b e)).2.b (dNum (4 : Int) (DS.mk b e)).2.bad)).2.b
 (dNum (41 : Int)
 (DS.mk (dNum (4 : Int) (DS.mk b e)).2.b
 (dNum (4 : Int) (DS.mk b e)).2.bad)).2.bad)).2.b,
 AV.bool
 (dWay
 (dNum (41 : Int)
 (DS.mk (dNum (4 : Int) (DS.mk b e)).2.b (dNum (4 : Int) (DS.mk b e)).2.bad)).1.toNat
 (DS.mk
 (dNum (41 : Int)
 (DS.mk (dNum (4 : Int) (DS.mk b e)).2.b (dNum (4 : Int) (DS.mk b e)).2.bad)).2.b
 (dNum (41 : Int)
 (DS.mk (dNum (4 : Int) (DS.mk b e)).2.b
 (dNum (4 : Int) (DS.mk b e)).2.bad)).2.bad)).2.bad]]
 []))
 (Q
 [AV.agg
 [AV.int IntKind.i64 (dNum (4 : Int) (DS.mk b e)).1,
 AV.row Ty.int
 (dWay
 (dNum (41 : Int)
 (DS.mk (dNum (4 : Int) (DS.mk b e)).2.b (dNum (4 : Int) (DS.mk b e)).2.bad)).1.toNat
 (DS.mk
 (dNum (41 : Int)
 (DS.mk (dNum (4 : Int) (DS.mk b e)).2.b (dNum (4 : Int) (DS.mk b e)).2.bad)).2.b
 (dNum (41 : Int)
 (DS.mk (dNum (4 : Int) (DS.mk b e)).2.b (dNum (4 : Int) (DS.mk b e)).2.bad)).2.bad)).1,
 AV.int IntKind.i64 (0 : Int), AV.int IntKind.i64 (0 : Int), AV.str (ByteArray.mk (Array.mk [])),
 AV.row Ty.attr [], AV.str (ByteArray.mk (Array.mk [])), AV.row Ty.node [], AV.int IntKind.i64 (0 : Int),
 AV.int IntKind.i64 (0 : Int), AV.str (ByteArray.mk (Array.mk [])), AV.row Ty.attr [],
 AV.str (ByteArray.mk (Array.mk [])), AV.row Ty.node []]]
 [Blk.box
 [AV.str
 (dWay
 (dNum (41 : Int)
 (DS.mk (dNum (4 : Int) (DS.mk b e)).2.b (dNum (4 : Int) (DS.mk b e)).2.bad)).1.toNat
 (DS.mk
 (dNum (41 : Int)
 (DS.mk (dNum (4 : Int) (DS.mk b e)).2.b (dNum (4 : Int) (DS.mk b e)).2.bad)).2.b
 (dNum (41 : Int)
 (DS.mk (dNum (4 : Int) (DS.mk b e)).2.b
 (dNum (4 : Int) (DS.mk b e)).2.bad)).2.bad)).2.b,
 AV.bool
 (dWay
 (dNum (41 : Int)
 (DS.mk (dNum (4 : Int) (DS.mk b e)).2.b (dNum (4 : Int) (DS.mk b e)).2.bad)).1.toNat
 (DS.mk
 (dNum (41 : Int)
 (DS.mk (dNum (4 : Int) (DS.mk b e)).2.b (dNum (4 : Int) (DS.mk b e)).2.bad)).2.b
 (dNum (41 : Int)
 (DS.mk (dNum (4 : Int) (DS.mk b e)).2.b
 (dNum (4 : Int) (DS.mk b e)).2.bad)).2.bad)).2.bad]]
 []))))) := by kernel_rfl
theorem vcDReadB (o : List Ed) (n : Int) (b : ByteArray) (e : Bool) (K : Ex → List AV → List Blk → Prop) : (bodyA cxDRead (LL Tryz.f15 [lsDRead]) Tryz.f15.ntmps (loopAt Tryz.f15 0).1 (loopAt Tryz.f15 0).2 lsDRead.keep lsDRead.left K [.ptr 0 0, .own 1 0, .int .i64 n] [.box [.str b, .bool e], .rowb 0 .edit o]) = (
Br (decide (n > (0 : Int)))
 (Br (!e)
 (Rq
 ((o.length +
 [Ed.mk (dEd (DS.mk b e)).1.1 (dEd (DS.mk b e)).1.2
 (Nd.mk (dEd (DS.mk b e)).1.3.1 (dEd (DS.mk b e)).1.3.2 (dEd (DS.mk b e)).1.3.3 (dEd (DS.mk b e)).1.3.4
 (dEd (DS.mk b e)).1.3.5 (dEd (DS.mk b e)).1.3.6)
 (Nd.mk (dEd (DS.mk b e)).1.4.1 (dEd (DS.mk b e)).1.4.2 (dEd (DS.mk b e)).1.4.3 (dEd (DS.mk b e)).1.4.4
 (dEd (DS.mk b e)).1.4.5 (dEd (DS.mk b e)).1.4.6)].length) *
 (224 : Nat) ≤
 maxSl)
 (K Ex.norm
 [AV.ptr (0 : Nat) (0 : Nat), AV.own ((0 : Nat) + (1 : Nat)) (0 : Nat),
 AV.int IntKind.i64 (IntKind.i64.wrap (n - (1 : Int)))]
 [Blk.box [AV.str (dEd (DS.mk b e)).2.b, AV.bool (dEd (DS.mk b e)).2.bad],
 Blk.rowb (0 : Nat) Ty.edit
 (o ++
 [Ed.mk (dEd (DS.mk b e)).1.1 (dEd (DS.mk b e)).1.2
 (Nd.mk (dEd (DS.mk b e)).1.3.1 (dEd (DS.mk b e)).1.3.2 (dEd (DS.mk b e)).1.3.3 (dEd (DS.mk b e)).1.3.4
 (dEd (DS.mk b e)).1.3.5 (dEd (DS.mk b e)).1.3.6)
 (Nd.mk (dEd (DS.mk b e)).1.4.1 (dEd (DS.mk b e)).1.4.2 (dEd (DS.mk b e)).1.4.3 (dEd (DS.mk b e)).1.4.4
 (dEd (DS.mk b e)).1.4.5 (dEd (DS.mk b e)).1.4.6)])]))
 (K (Ex.exit (0 : Nat)) [AV.ptr (0 : Nat) (0 : Nat), AV.own ((0 : Nat) + (1 : Nat)) (0 : Nat)]
 [Blk.box [AV.str b, AV.bool e], Blk.rowb (0 : Nat) Ty.edit o]))
 (K (Ex.exit (0 : Nat)) [AV.ptr (0 : Nat) (0 : Nat), AV.own ((0 : Nat) + (1 : Nat)) (0 : Nat)]
 [Blk.box [AV.str b, AV.bool e], Blk.rowb (0 : Nat) Ty.edit o])) := by kernel_rfl
theorem vcDReadF (b : ByteArray) (Q : List AV → List Blk → List Blk → Prop) : (funA cxDRead (LL Tryz.f15 [lsDRead]) Tryz.f15 [.str b] [] [.row .edit, .as] Q) = (
Rq
 ((0 : Nat) = (0 : Nat) ∧
 (0 : Int) ≤ (dNum (400 : Int) (DS.mk b false)).1 ∧ (dNum (400 : Int) (DS.mk b false)).1 ≤ (400 : Int))
 (Br
 (dEds (dNum (400 : Int) (DS.mk b false)).1.toNat
 (DS.mk (dNum (400 : Int) (DS.mk b false)).2.b (dNum (400 : Int) (DS.mk b false)).2.bad)).2.bad
 (Q [AV.row Ty.edit [], AV.int IntKind.i64 (4 : Int)] [] [])
 (Br
 (!eqS
 (dEds (dNum (400 : Int) (DS.mk b false)).1.toNat
 (DS.mk (dNum (400 : Int) (DS.mk b false)).2.b (dNum (400 : Int) (DS.mk b false)).2.bad)).2.b
 (ByteArray.mk (Array.mk [])))
 (Q [AV.row Ty.edit [], AV.int IntKind.i64 (4 : Int)] [] [])
 (Rq
 (fineEds
 (dEds (dNum (400 : Int) (DS.mk b false)).1.toNat
 (DS.mk (dNum (400 : Int) (DS.mk b false)).2.b (dNum (400 : Int) (DS.mk b false)).2.bad)).1)
 (Br
 (dchkS
 (dEds (dNum (400 : Int) (DS.mk b false)).1.toNat
 (DS.mk (dNum (400 : Int) (DS.mk b false)).2.b (dNum (400 : Int) (DS.mk b false)).2.bad)).1 !=
 (0 : Int))
 (Q [AV.row Ty.edit [], AV.int IntKind.i64 (4 : Int)] [] [])
 (Q
 [AV.row Ty.edit
 (dEds (dNum (400 : Int) (DS.mk b false)).1.toNat
 (DS.mk (dNum (400 : Int) (DS.mk b false)).2.b (dNum (400 : Int) (DS.mk b false)).2.bad)).1,
 AV.int IntKind.i64 (0 : Int)]
 [] [])))))) := by kernel_rfl
end Go.Proofs.YtnhipiedjekkpaaGreatDoor.AX
end
section
namespace Go.Proofs.YtnhipiedjekkpaaGreatDoor.AXP
open Go Go.Proofs.YtnhipiedjekkpaaGreatDoor.AX
theorem ds_eta (s : DS) : DS.mk s.b s.bad = s := by cases s; rfl
theorem txs_none {c : Nat} {r : ByteArray} (h : takeT (kb r) = none) : txsOK (c + 1) (kb r) = false ∧ stpT (c + 1) (kb r) = [] ∧ ttE r ≠ 0 ∧ ttR r = ⟨#[]⟩ := by
  unfold txsOK ttE ttR
  rw [pTxs, stpT, h]
  exact ⟨rfl, rfl, by decide, rfl⟩
theorem txs_some {c : Nat} {r : ByteArray} {x z : List UInt8} (h : takeT (kb r) = some (x, z)) : txsOK (c + 1) (kb r) = txsOK c z ∧ stpT (c + 1) (kb r) = bk x :: stpT c z ∧ ttE r = 0 ∧ ttR r = bk z ∧ ttS r = bk x ∧
    (txsOK c z = true → txsV (c + 1) (kb r) = bk x :: txsV c z ∧ txsR (c + 1) (kb r) = txsR c z) := by
  unfold txsOK txsV txsR ttE ttR ttS
  rw [pTxs, stpT, h]
  dsimp only
  cases hq : pTxs c z with
  | none => exact ⟨rfl, rfl, rfl, rfl, rfl, fun e => (nomatch e)⟩
  | some p => exact ⟨rfl, rfl, rfl, rfl, rfl, fun _ => ⟨rfl, rfl⟩⟩
theorem tl_bad {b : ByteArray} (h : tkE b ≠ 0 ∨ tkN b > 1000 ∨ txsOK (tkN b).toNat (kb (tkR b)) = false) : tlL b = [] ∧ tlR b = ⟨#[]⟩ ∧ tlE b = 4 := by
  have : takeL (kb b) = none := by
    unfold takeL
    cases hq : takeN (kb b) with
    | none => rfl
    | some p =>
      obtain ⟨n, r⟩ := p
      obtain ⟨h1, h2, h3⟩ := tk_someD hq
      rw [h1, h2, h3, kb_bk, Int.toNat_natCast] at h
      dsimp only
      by_cases hn : n > 1000
      · rw [if_pos hn]
      · rw [if_neg hn]
        rcases h with h | h | h
        · exact absurd rfl h
        · omega
        · unfold txsOK at h
          cases hp : pTxs n r with
          | none => rfl
          | some _ => rw [hp] at h; cases h
  unfold tlL tlR tlE
  rw [this]
  exact ⟨rfl, rfl, rfl⟩
theorem tl_good {b : ByteArray} (h1 : tkE b = 0) (h2 : ¬ tkN b > 1000) (h : txsOK (tkN b).toNat (kb (tkR b)) = true) : tlL b = txsV (tkN b).toNat (kb (tkR b)) ∧ tlR b = txsR (tkN b).toNat (kb (tkR b)) ∧ tlE b = 0 := by
  unfold tlL tlR tlE takeL
  cases hq : takeN (kb b) with
  | none => exact absurd h1 (tk_noneD hq)
  | some p =>
    obtain ⟨n, r⟩ := p
    obtain ⟨_, e2, e3⟩ := tk_someD hq
    rw [e2] at h2
    rw [e2, e3, kb_bk, Int.toNat_natCast] at h ⊢
    dsimp only
    rw [if_neg (by omega)]
    unfold txsOK at h
    unfold txsV txsR
    cases hp : pTxs n r with
    | none => rw [hp] at h; cases h
    | some q => exact ⟨rfl, rfl, rfl⟩
theorem tl_len (b : ByteArray) : (tlL b).length ≤ 1000 := by
  unfold tlL
  cases h : takeL (kb b) with
  | none => exact Nat.zero_le _
  | some p => exact (takeL_inv h).2.1
theorem prs_step {l : List ByteArray} {i : Nat} (h : i + 1 < l.length) : prs (l.drop i) = ⟨l[i], l[i + 1]⟩ :: prs (l.drop (i + 2)) := by
  rw [List.drop_eq_getElem_cons (by omega), List.drop_eq_getElem_cons h, prs]
theorem dDel_fine {b : ByteArray} (h : (dDel ⟨b, false⟩).2.bad = false) : fineEds (dDel ⟨b, false⟩).1 := by
  have := dDel_ok.2 b
  cases hq : pDel (kb b) with
  | none =>
    rw [hq] at this
    have this : (dDel ⟨b, false⟩).2.bad = true := this
    rw [h] at this; cases this
  | some p =>
    obtain ⟨s, r⟩ := p
    rw [hq] at this
    have this : dDel ⟨b, false⟩ = (s, ⟨bk r, false⟩) := this
    rw [this]
    exact fun x hx => ((pDel_inv hq).2.2 x hx).2
end Go.Proofs.YtnhipiedjekkpaaGreatDoor.AXP
namespace Go.Proofs.YtnhipiedjekkpaaGreatDoor.AX
open Go AXP
set_option maxRecDepth 100000
theorem tkL_sum : SumOK cxTkL (LL Tryz.f104 [lsTkL]) Tryz.f104.ntmps (loopAt Tryz.f104 0).1 (loopAt Tryz.f104 0).2 lsTkL := by
  intro vs bs K hs
  unfold lsTkL at hs
  simp only at hs
  split at hs
  case h_2 => exact hs.elim
  rename_i r n i o
  obtain ⟨⟨ho, rfl, hn0, hn⟩, h⟩ := hs
  obtain rfl : o = [] := List.eq_nil_of_length_eq_zero ho
  obtain ⟨n, rfl⟩ := Int.eq_ofNat_of_zero_le hn0
  rw [Int.toNat_natCast] at h
  refine sum_rec (σ := Nat × ByteArray × List ByteArray) (fun s => [.own 0 0, .str s.2.1, .int .i64 n, .int .i64 (s.1 : Nat)]) (fun s => [.rowb 0 .str s.2.2])
    (fun s => s.1 ≤ n ∧ s.2.2.length = s.1 ∧ txsOK (n - s.1) (kb s.2.1) = txsOK n (kb r) ∧ s.2.2 ++ stpT (n - s.1) (kb s.2.1) = stpT n (kb r) ∧ (txsOK n (kb r) = true → s.2.2 ++ txsV (n - s.1) (kb s.2.1) = txsV n (kb r) ∧ txsR (n - s.1) (kb s.2.1) = txsR n (kb r))) (fun s => n - s.1) ?_ (0, r, []) ⟨Nat.zero_le _, rfl, rfl, rfl, fun _ => ⟨rfl, rfl⟩⟩
  rintro ⟨i, b, acc⟩ ⟨h1, h2, h3, h4, h5⟩ R hR
  dsimp only at h1 h2 h3 h4 h5 hR ⊢
  refine Eq.mpr (vcTkLB acc b n i _) ⟨fun q => ?_, fun q => ?_⟩
  · have q := of_decide_eq_true q
    obtain ⟨c, hc⟩ : ∃ c, n - i = c + 1 := ⟨n - i - 1, by omega⟩
    rw [hc] at h3 h4 h5
    cases ht : takeT (kb b) with
    | none =>
      obtain ⟨g1, g2, g3, g4⟩ := txs_none (c := c) ht
      rw [g1] at h3
      rw [g2, List.append_nil] at h4
      rw [h4, g4]
      exact ⟨fun _ => h.no h3.symm, fun q2 => absurd (by simpa using q2) g3⟩
    | some p =>
      obtain ⟨x, z⟩ := p
      obtain ⟨g1, g2, g3, g4, g5, g6⟩ := txs_some (c := c) ht
      rw [g3, g4, g5]
      have hmx : maxSl = 140737488355328 := rfl
      refine ⟨fun q2 => (nomatch q2), fun _ => Rq.mk (by simp only [List.length_cons, List.length_nil]; omega) ?_⟩
      have ew : IntKind.i64.wrap ((i : Int) + 1) = ((i + 1 : Nat) : Int) := by rw [wrap_id'] <;> omega
      rw [ew]
      rw [g1] at h3
      refine hR (i + 1, bk z, acc ++ [bk x]) ⟨by dsimp only; omega, ?_, ?_, ?_, fun hk => ?_⟩ (by dsimp only; omega)
      · dsimp only; rw [List.length_append]; simp only [List.length_cons, List.length_nil]; omega
      · dsimp only; rw [show n - (i + 1) = c by omega, kb_bk]; exact h3
      · dsimp only; rw [show n - (i + 1) = c by omega, kb_bk, List.append_assoc]; rw [g2] at h4; exact h4
      · dsimp only
        obtain ⟨k1, k2⟩ := g6 (by rw [h3]; exact hk)
        obtain ⟨l1, l2⟩ := h5 hk
        rw [show n - (i + 1) = c by omega, kb_bk, List.append_assoc]
        rw [k1] at l1
        rw [k2] at l2
        exact ⟨l1, l2⟩
  · have q := of_decide_eq_false q
    have e0 : n - i = 0 := by omega
    rw [e0] at h3 h5
    have hk : txsOK n (kb r) = true := h3.symm
    obtain ⟨l1, l2⟩ := h5 hk
    have e1 : txsV 0 (kb b) = [] := rfl
    have e2 : txsR 0 (kb b) = b := bk_kb b
    rw [e1, List.append_nil] at l1
    rw [e2] at l2
    rw [l1, l2]
    exact h.yes hk
theorem tkL_holds : Holds 104 conTkL := conP_holds fun b => by
  rcases (show ∃ w : ByteArray, w = b from ⟨_, rfl⟩) with ⟨b, rfl⟩
  refine fun_meets1 (AllH.tok (.cons tkN_holds (by kernel_rfl) (.cons tkT_holds (by kernel_rfl) .nil))) [.row .str, .as, .as] lsTkL (by kernel_rfl) (by kernel_rfl) tkL_sum fun _ => Eq.mpr (vcTkLF b _) ?_
  have fin : ∀ l r e, tlL b = l ∧ tlR b = r ∧ tlE b = e → FinQ { res := .tup [.row .str (tlL b), .str (tlR b), .int .i64 (tlE b)] } [AV.row .str l, AV.str r, AV.int .i64 e] [] [] := fun l r e h => qfin rfl (by rw [h.1, h.2.1, h.2.2]; rfl) rfl rfl
  have h0 : 0 ≤ tkN b := by unfold tkN; split <;> omega
  refine ⟨fun h => fin _ _ _ (tl_bad (.inl (by simpa using h))), fun h => ⟨fun h1 => fin _ _ _ (tl_bad (.inr (.inl (of_decide_eq_true h1)))), fun h1 => Rq.mk ⟨rfl, rfl, h0, by have := of_decide_eq_false h1; omega⟩ ⟨fun h2 => fin _ _ _ (tl_good (by simpa using h) (of_decide_eq_false h1) h2), fun h2 => fin _ _ _ (tl_bad (.inr (.inr h2)))⟩⟩⟩
theorem tokDRd : TOK cxDRd := AllH.tok (.cons tkN_holds (by kernel_rfl) (.cons tkT_holds (by kernel_rfl) (.cons tkL_holds (by kernel_rfl) .nil)))
theorem dNum_holds : Holds 32 conDNum := by
  intro args hp ans hc
  unfold conDNum at hc
  split at hc
  case h_2 => cases hc
  rename_i m b e
  injection hc with hc
  subst hc
  refine fun_meets0 tokDRd [] (by kernel_rfl) (by kernel_rfl) fun _ => Eq.mpr (vcDNumF m b e _) ?_
  have fin : ∀ v s, dNum m ⟨b, e⟩ = (v, s) → FinQ { res := .int .i64 (dNum m ⟨b, e⟩).1, hp := [.box [.str (dNum m ⟨b, e⟩).2.b, .bool (dNum m ⟨b, e⟩).2.bad]] } [.int .i64 v] [.box [.str s.b, .bool s.bad]] [] := fun v s h => by
    rw [h]; exact qfin rfl rfl rfl rfl
  refine ⟨fun h => fin 0 ⟨tkR b, true⟩ ?_, fun h => ⟨fun h1 => fin 0 ⟨tkR b, true⟩ ?_, fun h1 => fin (tkN b) ⟨tkR b, e⟩ ?_⟩⟩ <;> unfold dNum
  · rw [if_pos (.inl (by simpa using h))]
  · rw [if_pos (.inr (of_decide_eq_true h1))]
  · rw [if_neg]
    rintro (q | q)
    · exact q (by simpa using h)
    · exact (of_decide_eq_false h1) q
theorem dTxt_holds : Holds 88 conDTxt := by
  intro args hp ans hc
  unfold conDTxt at hc
  split at hc
  case h_2 => cases hc
  rename_i b e
  injection hc with hc
  subst hc
  refine fun_meets0 tokDRd [] (by kernel_rfl) (by kernel_rfl) fun _ => Eq.mpr (vcDTxtF b e _) ?_
  exact ⟨fun h => by subst h; exact qfin rfl rfl rfl rfl, fun h => by subst h; exact qfin rfl rfl rfl rfl⟩
theorem dNode_holds : Holds 82 conDNode := by
  intro args hp ans hc
  unfold conDNode at hc
  split at hc
  case h_2 => cases hc
  rename_i b e
  injection hc with hc
  subst hc
  refine fun_meets0 (AllH.tok (.cons dTxt_holds (by kernel_rfl) (.cons readN_holds (by kernel_rfl) .nil))) [.as, .as, .as, .row .attr, .as, .row .node] (by kernel_rfl) (by kernel_rfl) fun _ => Eq.mpr (vcDNodeF b e _) ?_
  have fin : ∀ n s, dNode ⟨b, e⟩ = (n, s) → FinQ { res := .agg (nodeL (dNode ⟨b, e⟩).1), hp := [.box [.str (dNode ⟨b, e⟩).2.b, .bool (dNode ⟨b, e⟩).2.bad]] } [.agg (nodeL n)] [.box [.str s.b, .bool s.bad]] [] := fun v s h => by
    rw [h]; exact qfin rfl rfl rfl rfl
  have no : rdOne (ttS b) = none → dNode ⟨b, e⟩ = (zN, ⟨ttR b, true⟩) := fun h => by unfold dNode; rw [h]
  refine ⟨fun h => fin zN ⟨ttR b, true⟩ (no ?_), fun h => ⟨fun _ => ⟨fun h1 => fin zN ⟨ttR b, true⟩ (no ?_), fun h1 => ?_⟩⟩⟩
  · have h : ¬ rdE (ttS b) = 0 := by simpa using h
    unfold rdOne; rw [if_neg h]
  · have h : rdE (ttS b) = 0 := by simpa using h
    have h1 : ¬ ((rdL (ttS b)).length : Int) = 1 := by simpa using h1
    unfold rdOne; rw [if_pos h]
    split
    · rename_i hq; rw [hq] at h1; exact absurd rfl h1
    · rfl
  · have h : rdE (ttS b) = 0 := by simpa using h
    have h1 : ((rdL (ttS b)).length : Int) = 1 := by simpa using h1
    obtain ⟨n, hn⟩ := List.length_eq_one_iff.1 (show (rdL (ttS b)).length = 1 by omega)
    rw [hn]
    refine Rq.mk ⟨by decide, by show (0 : Int) < 1; decide⟩ (fin n ⟨ttR b, e || ttE b != 0⟩ ?_)
    unfold dNode
    have : rdOne (ttS b) = some n := by unfold rdOne; rw [if_pos h, hn]
    rw [this]
theorem dAts_sum : SumOK cxDRd (LL Tryz.f85 [lsDAts]) Tryz.f85.ntmps (loopAt Tryz.f85 0).1 (loopAt Tryz.f85 0).2 lsDAts := by
  intro vs bs K hs
  unfold lsDAts at hs
  simp only at hs
  split at hs
  case h_2 => exact hs.elim
  rename_i l i b e o
  rcases (show ∃ w : List ByteArray, w = l from ⟨_, rfl⟩) with ⟨l, rfl⟩
  obtain ⟨⟨rfl, ho, hev, hl⟩, h⟩ := hs
  obtain rfl : o = [] := List.eq_nil_of_length_eq_zero ho
  have hmx : maxSl = 140737488355328 := rfl
  refine sum_rec (σ := Nat × List At) (fun s => [.ptr 0 0, .own 1 0, .row .str l, .int .i64 (2 * s.1 : Nat)]) (fun s => [.box [.str b, .bool e], .rowb 0 .attr s.2]) (fun s => 2 * s.1 ≤ l.length ∧ s.2 ++ prs (l.drop (2 * s.1)) = prs l ∧ s.2.length = s.1) (fun s => l.length - 2 * s.1) ?_ (0, []) ⟨Nat.zero_le _, rfl, rfl⟩
  rintro ⟨i, acc⟩ ⟨hi, he, ha⟩ R hR
  dsimp only at hi he ha hR ⊢
  have ew : IntKind.i64.wrap (((2 * i : Nat) : Int) + 1) = ((2 * i + 1 : Nat) : Int) := by rw [wrap_id'] <;> omega
  have ew2 : IntKind.i64.wrap (((2 * i : Nat) : Int) + 2) = ((2 * (i + 1) : Nat) : Int) := by rw [wrap_id'] <;> omega
  refine Eq.mpr (vcDAtsB acc l (2 * i : Nat) b e _) ⟨fun _ => ?_⟩
  rw [ew, ew2]
  refine ⟨fun h1 => ?_, fun h1 => ?_⟩
  · have h1 := of_decide_eq_true h1
    have hlt : 2 * i + 1 < l.length := by omega
    have g1 : rd .str l ((2 * i : Nat) : Int) = l[2 * i] := rd_get (t := .str) (by omega)
    have g2 : rd .str l ((2 * i + 1 : Nat) : Int) = l[2 * i + 1] := rd_get (t := .str) hlt
    rw [g1, g2]
    rw [prs_step hlt] at he
    refine Rq.mk ⟨by omega, by omega⟩ (Rq.mk ⟨by omega, by omega⟩ (Rq.mk (by simp only [List.length_cons, List.length_nil]; omega) ?_))
    refine hR (i + 1, acc ++ [⟨l[2 * i], l[2 * i + 1]⟩]) ⟨by dsimp only; omega, ?_, ?_⟩ (by dsimp only; omega)
    · dsimp only
      rw [List.append_assoc, show 2 * (i + 1) = 2 * i + 2 by omega]; exact he
    · dsimp only
      rw [List.length_append]; simp only [List.length_cons, List.length_nil]; omega
  · have h1 := of_decide_eq_false h1
    rw [List.drop_of_length_le (by omega)] at he
    have : acc = prs l := by rw [← he]; exact (List.append_nil _).symm
    rw [this]
    exact h
theorem dAts_holds : Holds 85 conDAts := by
  intro args hp ans hc
  unfold conDAts at hc
  split at hc
  case h_2 => cases hc
  rename_i b e
  injection hc with hc
  subst hc
  refine fun_meets1 tokDRd [.row .attr] lsDAts (by kernel_rfl) (by kernel_rfl) dAts_sum fun _ => Eq.mpr (vcDAtsF b e _) ?_
  have fin : ∀ n s, dAts ⟨b, e⟩ = (n, s) → FinQ { res := .row .attr (dAts ⟨b, e⟩).1, hp := [.box [.str (dAts ⟨b, e⟩).2.b, .bool (dAts ⟨b, e⟩).2.bad]] } [.row .attr n] [.box [.str s.b, .bool s.bad]] [] := fun v s h => by
    rw [h]; exact qfin rfl rfl rfl rfl
  have et : ((tlL b).length : Int).tmod 2 = (((tlL b).length % 2 : Nat) : Int) := by rw [Int.tmod_eq_emod_of_nonneg (by omega)]; omega
  refine ⟨fun h => fin [] ⟨tlR b, true⟩ ?_, fun h => Rq.mk (by decide) ⟨fun _ => ?_⟩⟩
  · unfold dAts; rw [if_pos (.inl (by simpa using h))]
  · rw [et]
    refine ⟨fun h1 => fin [] ⟨tlR b, true⟩ ?_, fun h1 => ?_⟩
    · have h1 := of_decide_eq_true h1
      unfold dAts; rw [if_pos (.inr (by dsimp only; omega))]
    · have h1 := of_decide_eq_false h1
      refine Rq.mk ⟨rfl, rfl, by omega, tl_len b⟩ (fin _ ⟨tlR b, e⟩ ?_)
      unfold dAts
      rw [if_neg]
      rintro (q | q)
      · exact q (by simpa using h)
      · have q : (tlL b).length % 2 > 0 := q
        omega
theorem tokDRk : TOK cxDRk := AllH.tok (.cons dNode_holds (by kernel_rfl) (.cons dAts_holds (by kernel_rfl) (.cons dTxt_holds (by kernel_rfl) .nil)))
theorem rdIn_holds : Holds 46 conRdIn := by
  intro args hp ans hc
  unfold conRdIn at hc
  split at hc
  case h_3 => cases hc
  · rename_i b e k o0 o1 o2 o4 n0 n1 n2 n4
    injection hc with hc
    subst hc
    exact fun_meets0 tokDRk [] (by kernel_rfl) (by kernel_rfl) fun _ => Eq.mpr (vcRdIn0 k o0 o1 n0 n1 o2 o4 n2 n4 b e _) (qfin rfl rfl rfl rfl)
  · rename_i b e k o0 o1 o2 o4 n0 n1 n2 n4 w
    injection hc with hc
    subst hc
    exact fun_meets0 tokDRk [] (by kernel_rfl) (by kernel_rfl) fun _ => Eq.mpr (vcRdIn1 k o0 o1 n0 n1 o2 o4 n2 n4 b e w _) (qfin rfl rfl rfl rfl)
theorem rdOut_holds : Holds 49 conRdOut := by
  intro args hp ans hc
  unfold conRdOut at hc
  split at hc
  case h_3 => cases hc
  · rename_i b e k o0 o1 o2 o4 n0 n1 n2 n4
    injection hc with hc
    subst hc
    exact fun_meets0 tokDRk [] (by kernel_rfl) (by kernel_rfl) fun _ => Eq.mpr (vcRdOut0 k o0 o1 n0 n1 o2 o4 n2 n4 b e _) (qfin rfl rfl rfl rfl)
  · rename_i b e k o0 o1 o2 o4 n0 n1 n2 n4 w
    injection hc with hc
    subst hc
    exact fun_meets0 tokDRk [] (by kernel_rfl) (by kernel_rfl) fun _ => Eq.mpr (vcRdOut1 k o0 o1 n0 n1 o2 o4 n2 n4 b e w _) (qfin rfl rfl rfl rfl)
theorem rdAttrs_holds : Holds 52 conRdAttrs := by
  intro args hp ans hc
  unfold conRdAttrs at hc
  split at hc
  case h_3 => cases hc
  · rename_i b e k o0 o1 o2 o4 n0 n1 n2 n4
    injection hc with hc
    subst hc
    exact fun_meets0 tokDRk [] (by kernel_rfl) (by kernel_rfl) fun _ => Eq.mpr (vcRdAttrs0 k o0 o1 n0 n1 o2 o4 n2 n4 b e _) (qfin rfl rfl rfl rfl)
  · rename_i b e k o0 o1 o2 o4 n0 n1 n2 n4 w
    injection hc with hc
    subst hc
    exact fun_meets0 tokDRk [] (by kernel_rfl) (by kernel_rfl) fun _ => Eq.mpr (vcRdAttrs1 k o0 o1 n0 n1 o2 o4 n2 n4 b e w _) (qfin rfl rfl rfl rfl)
theorem rdText_holds : Holds 55 conRdText := by
  intro args hp ans hc
  unfold conRdText at hc
  split at hc
  case h_3 => cases hc
  · rename_i b e k o0 o1 o2 o4 n0 n1 n2 n4
    injection hc with hc
    subst hc
    exact fun_meets0 tokDRk [] (by kernel_rfl) (by kernel_rfl) fun _ => Eq.mpr (vcRdText0 k o0 o1 n0 n1 o2 o4 n2 n4 b e _) (qfin rfl rfl rfl rfl)
  · rename_i b e k o0 o1 o2 o4 n0 n1 n2 n4 w
    injection hc with hc
    subst hc
    exact fun_meets0 tokDRk [] (by kernel_rfl) (by kernel_rfl) fun _ => Eq.mpr (vcRdText1 k o0 o1 n0 n1 o2 o4 n2 n4 b e w _) (qfin rfl rfl rfl rfl)
theorem tokDEd (k : Nat) : TOK (cxDEd k) := AllH.tok (.cons dNum_holds (by kernel_rfl) (.cons (kindsK_holds k) (by kernel_rfl) (.cons rdIn_holds (by kernel_rfl) (.cons rdOut_holds (by kernel_rfl) (.cons rdAttrs_holds (by kernel_rfl) (.cons rdText_holds (by kernel_rfl) .nil))))))
def blDE (b : ByteArray) (e : Bool) (z o0 o1 n0 n1 : Int) (o2 o4 n2 n4 : ByteArray) (k p0 p1 q0 q1 : Int) (p2 p4 q2 q4 : ByteArray) : List Int → List Blk
  | [] => [.box [.str b, .bool e], .box [.int .i64 z, .nil, .int .i64 o0, .int .i64 o1, .str o2, .nil, .str o4, .nil, .int .i64 n0, .int .i64 n1, .str n2, .nil, .str n4, .nil], .box [.int .i64 k, .nil, .int .i64 p0, .int .i64 p1, .str p2, .nil, .str p4, .nil, .int .i64 q0, .int .i64 q1, .str q2, .nil, .str q4, .nil]]
  | i :: w => [.box [.str b, .bool e], .box [.int .i64 z, .nil, .int .i64 o0, .int .i64 o1, .str o2, .nil, .str o4, .nil, .int .i64 n0, .int .i64 n1, .str n2, .nil, .str n4, .nil], .box [.int .i64 k, .own 3 0, .int .i64 p0, .int .i64 p1, .str p2, .nil, .str p4, .nil, .int .i64 q0, .int .i64 q1, .str q2, .nil, .str q4, .nil], .rowb 0 .int (i :: w)]
theorem dEd_sum (j : Nat) : SumOK (cxDEd j) (LL Tryz.f33 [lsDEd]) Tryz.f33.ntmps (loopAt Tryz.f33 0).1 (loopAt Tryz.f33 0).2 lsDEd := by
  intro vs bs K hs
  unfold lsDEd at hs
  simp only at hs
  split at hs
  case h_2 => exact hs.elim
  rename_i n b e z o0 o1 o2 o4 n0 n1 n2 n4 k p0 p1 p2 p4 q0 q1 q2 q4
  obtain ⟨⟨hn0, hn⟩, h⟩ := hs
  obtain ⟨n, rfl⟩ := Int.eq_ofNat_of_zero_le hn0
  rw [Int.toNat_natCast] at h
  refine sum_rec (σ := Nat × DS × List Int) (fun s => [.ptr 0 0, .ptr 1 0, .ptr 2 0, .int .i64 (s.1 : Nat)]) (fun s => blDE s.2.1.b s.2.1.bad z o0 o1 n0 n1 o2 o4 n2 n4 k p0 p1 q0 q1 p2 p4 q2 q4 s.2.2) (fun s => s.2.2 ++ (dWay s.1 s.2.1).1 = (dWay n ⟨b, e⟩).1 ∧ (dWay s.1 s.2.1).2 = (dWay n ⟨b, e⟩).2 ∧ s.1 + s.2.2.length ≤ 41) (fun s => s.1) ?_ (n, ⟨b, e⟩, []) ⟨rfl, rfl, by dsimp only; simp only [List.length_nil]; omega⟩
  rintro ⟨i, s, acc⟩ ⟨h1, h2, h3⟩ R hR
  dsimp only at h1 h2 h3 hR ⊢
  have hmx : maxSl = 140737488355328 := rfl
  have fin : dWay i s = ([], s) → K (.exit 0) [.ptr 0 0, .ptr 1 0, .ptr 2 0] (blDE s.b s.bad z o0 o1 n0 n1 o2 o4 n2 n4 k p0 p1 q0 q1 p2 p4 q2 q4 acc) := fun q => by
    rw [q, List.append_nil] at h1
    rw [q] at h2
    dsimp only at h1 h2
    rw [← h1, ← h2] at h
    cases acc with
    | nil => exact h.yes rfl
    | cons x l => exact h.no rfl
  have next : ∀ i', i = i' + 1 → s.bad = false → R [.ptr 0 0, .ptr 1 0, .ptr 2 0, .int .i64 (IntKind.i64.wrap ((i : Int) - 1))] (blDE (dNum 300 s).2.b (dNum 300 s).2.bad z o0 o1 n0 n1 o2 o4 n2 n4 k p0 p1 q0 q1 p2 p4 q2 q4 (acc ++ [(dNum 300 s).1])) := fun i' q1 q2 => by
    subst q1
    have ew : IntKind.i64.wrap (((i' + 1 : Nat) : Int) - 1) = (i' : Int) := by rw [wrap_id'] <;> omega
    rw [ew]
    rw [dWay, if_neg (by rw [q2]; decide)] at h1 h2
    refine hR (i', (dNum 300 s).2, acc ++ [(dNum 300 s).1]) ⟨?_, h2, ?_⟩ (by dsimp only; omega)
    · dsimp only; rw [List.append_assoc]; exact h1
    · dsimp only; rw [List.length_append]; simp only [List.length_cons, List.length_nil]; omega
  have stop : s.bad = true → dWay i s = ([], s) := fun q => by
    cases i with
    | zero => rfl
    | succ i => rw [dWay, if_pos q]
  have none_ : i = 0 → dWay i s = ([], s) := fun q => by subst q; rfl
  obtain ⟨b', e'⟩ := s
  cases acc with
  | nil =>
    refine Eq.mpr (vcDEdB0 j z o0 o1 n0 n1 o2 o4 n2 n4 k p0 p1 q0 q1 p2 p4 q2 q4 i b' e' _) ⟨fun q => ⟨fun q2 => Rq.mk (show 1 * 8 ≤ maxSl by decide) ?_, fun q2 => ?_⟩, fun q => ?_⟩
    · have q := of_decide_eq_true q
      exact next (i - 1) (by omega) (by simpa using q2)
    · exact fin (stop (by simpa using q2))
    · have q := of_decide_eq_false q
      exact fin (none_ (by omega))
  | cons x l =>
    refine Eq.mpr (vcDEdB1 j (x :: l) z o0 o1 n0 n1 o2 o4 n2 n4 k p0 p1 q0 q1 p2 p4 q2 q4 i b' e' _) ⟨fun q => ⟨fun q2 => Rq.mk ?_ ?_, fun q2 => ?_⟩, fun q => ?_⟩
    · simp only [List.length_cons, List.length_nil] at h3 ⊢; omega
    · have q := of_decide_eq_true q
      exact next (i - 1) (by omega) (by simpa using q2)
    · exact fin (stop (by simpa using q2))
    · have q := of_decide_eq_false q
      exact fin (none_ (by omega))
theorem dEd_holds : Holds 33 conDEd := by
  intro args hp ans hc
  unfold conDEd at hc
  split at hc
  case h_2 => cases hc
  rename_i b e
  injection hc with hc
  subst hc
  have hd : dEd ⟨b, e⟩ = dBody (dNum 4 ⟨b, e⟩).1 (dWay (dNum 41 (dNum 4 ⟨b, e⟩).2).1.toNat (dNum 41 (dNum 4 ⟨b, e⟩).2).2).1 (dWay (dNum 41 (dNum 4 ⟨b, e⟩).2).1.toNat (dNum 41 (dNum 4 ⟨b, e⟩).2).2).2 := rfl
  have hr := dNum_rng (m := 41) (by decide) (dNum 4 ⟨b, e⟩).2
  have h4 := dNum_rng (m := 4) (by decide) ⟨b, e⟩
  by_cases w1 : (dNum 4 ⟨b, e⟩).1 = 1
  · refine fun_meets1 (tokDEd 1) [.as, .row .int, .as, .as, .as, .row .attr, .as, .row .node, .as, .as, .as, .row .attr, .as, .row .node] lsDEd (by kernel_rfl) (by kernel_rfl) (dEd_sum 1) fun _ => Eq.mpr (vcDEd1F b e _) ?_
    simp only [ds_eta, nd_eta]
    generalize hq : dWay (dNum 41 (dNum 4 ⟨b, e⟩).2).1.toNat (dNum 41 (dNum 4 ⟨b, e⟩).2).2 = q at hd ⊢
    clear hq
    obtain ⟨w, ⟨b', e'⟩⟩ := q
    rw [w1] at hd
    rw [hd]
    simp only [w1]
    refine Rq.mk hr ⟨fun h => ?_, fun h => ?_⟩
    · have h : w = [] := List.eq_nil_of_length_eq_zero (by simpa using h)
      subst h
      cases e' with
      | true => exact Rq.mk trivial ⟨fun _ => ⟨fun q => (nomatch q), fun _ => qfin rfl rfl rfl rfl⟩, fun q => (nomatch q)⟩
      | false => exact Rq.mk trivial ⟨fun _ => ⟨fun _ => qfin rfl rfl rfl rfl, fun q => (nomatch q)⟩, fun q => (nomatch q)⟩
    · cases e' with
      | true => exact Rq.mk trivial ⟨fun _ => ⟨fun q => (nomatch q), fun _ => qfin rfl rfl rfl rfl⟩, fun q => (nomatch q)⟩
      | false => exact Rq.mk trivial ⟨fun _ => ⟨fun _ => qfin rfl rfl rfl rfl, fun q => (nomatch q)⟩, fun q => (nomatch q)⟩
  by_cases w2 : (dNum 4 ⟨b, e⟩).1 = 2
  · refine fun_meets1 (tokDEd 2) [.as, .row .int, .as, .as, .as, .row .attr, .as, .row .node, .as, .as, .as, .row .attr, .as, .row .node] lsDEd (by kernel_rfl) (by kernel_rfl) (dEd_sum 2) fun _ => Eq.mpr (vcDEd2F b e _) ?_
    simp only [ds_eta, nd_eta]
    generalize hq : dWay (dNum 41 (dNum 4 ⟨b, e⟩).2).1.toNat (dNum 41 (dNum 4 ⟨b, e⟩).2).2 = q at hd ⊢
    clear hq
    obtain ⟨w, ⟨b', e'⟩⟩ := q
    rw [w2] at hd
    rw [hd]
    simp only [w2]
    refine Rq.mk hr ⟨fun h => ?_, fun h => ?_⟩
    · have h : w = [] := List.eq_nil_of_length_eq_zero (by simpa using h)
      subst h
      cases e' with
      | true => exact Rq.mk trivial ⟨fun _ => ⟨fun q => (nomatch q), fun _ => qfin rfl rfl rfl rfl⟩, fun q => (nomatch q)⟩
      | false => exact Rq.mk trivial ⟨fun _ => ⟨fun _ => qfin rfl rfl rfl rfl, fun q => (nomatch q)⟩, fun q => (nomatch q)⟩
    · cases e' with
      | true => exact Rq.mk trivial ⟨fun _ => ⟨fun q => (nomatch q), fun _ => qfin rfl rfl rfl rfl⟩, fun q => (nomatch q)⟩
      | false => exact Rq.mk trivial ⟨fun _ => ⟨fun _ => qfin rfl rfl rfl rfl, fun q => (nomatch q)⟩, fun q => (nomatch q)⟩
  by_cases w3 : (dNum 4 ⟨b, e⟩).1 = 3
  · refine fun_meets1 (tokDEd 3) [.as, .row .int, .as, .as, .as, .row .attr, .as, .row .node, .as, .as, .as, .row .attr, .as, .row .node] lsDEd (by kernel_rfl) (by kernel_rfl) (dEd_sum 3) fun _ => Eq.mpr (vcDEd3F b e _) ?_
    simp only [ds_eta, nd_eta]
    generalize hq : dWay (dNum 41 (dNum 4 ⟨b, e⟩).2).1.toNat (dNum 41 (dNum 4 ⟨b, e⟩).2).2 = q at hd ⊢
    clear hq
    obtain ⟨w, ⟨b', e'⟩⟩ := q
    rw [w3] at hd
    rw [hd]
    simp only [w3]
    refine Rq.mk hr ⟨fun h => ?_, fun h => ?_⟩
    · have h : w = [] := List.eq_nil_of_length_eq_zero (by simpa using h)
      subst h
      cases e' with
      | true => exact Rq.mk trivial ⟨fun _ => ⟨fun q => (nomatch q), fun _ => qfin rfl rfl rfl rfl⟩, fun q => (nomatch q)⟩
      | false => exact Rq.mk trivial ⟨fun _ => ⟨fun _ => qfin rfl rfl rfl rfl, fun q => (nomatch q)⟩, fun q => (nomatch q)⟩
    · cases e' with
      | true => exact Rq.mk trivial ⟨fun _ => ⟨fun q => (nomatch q), fun _ => qfin rfl rfl rfl rfl⟩, fun q => (nomatch q)⟩
      | false => exact Rq.mk trivial ⟨fun _ => ⟨fun _ => qfin rfl rfl rfl rfl, fun q => (nomatch q)⟩, fun q => (nomatch q)⟩
  by_cases w4 : (dNum 4 ⟨b, e⟩).1 = 4
  · refine fun_meets1 (tokDEd 4) [.as, .row .int, .as, .as, .as, .row .attr, .as, .row .node, .as, .as, .as, .row .attr, .as, .row .node] lsDEd (by kernel_rfl) (by kernel_rfl) (dEd_sum 4) fun _ => Eq.mpr (vcDEd4F b e _) ?_
    simp only [ds_eta, nd_eta]
    generalize hq : dWay (dNum 41 (dNum 4 ⟨b, e⟩).2).1.toNat (dNum 41 (dNum 4 ⟨b, e⟩).2).2 = q at hd ⊢
    clear hq
    obtain ⟨w, ⟨b', e'⟩⟩ := q
    rw [w4] at hd
    rw [hd]
    simp only [w4]
    refine Rq.mk hr ⟨fun h => ?_, fun h => ?_⟩
    · have h : w = [] := List.eq_nil_of_length_eq_zero (by simpa using h)
      subst h
      cases e' with
      | true => exact Rq.mk trivial ⟨fun _ => ⟨fun q => (nomatch q), fun _ => qfin rfl rfl rfl rfl⟩, fun q => (nomatch q)⟩
      | false => exact Rq.mk trivial ⟨fun _ => ⟨fun _ => qfin rfl rfl rfl rfl, fun q => (nomatch q)⟩, fun q => (nomatch q)⟩
    · cases e' with
      | true => exact Rq.mk trivial ⟨fun _ => ⟨fun q => (nomatch q), fun _ => qfin rfl rfl rfl rfl⟩, fun q => (nomatch q)⟩
      | false => exact Rq.mk trivial ⟨fun _ => ⟨fun _ => qfin rfl rfl rfl rfl, fun q => (nomatch q)⟩, fun q => (nomatch q)⟩
  refine fun_meets1 (tokDEd 0) [.as, .row .int, .as, .as, .as, .row .attr, .as, .row .node, .as, .as, .as, .row .attr, .as, .row .node] lsDEd (by kernel_rfl) (by kernel_rfl) (dEd_sum 0) fun _ => Eq.mpr (vcDEd0F b e _) ?_
  simp only [ds_eta, nd_eta]
  generalize hq : dWay (dNum 41 (dNum 4 ⟨b, e⟩).2).1.toNat (dNum 41 (dNum 4 ⟨b, e⟩).2).2 = q at hd ⊢
  clear hq
  obtain ⟨w, ⟨b', e'⟩⟩ := q
  have w0 : (dNum 4 ⟨b, e⟩).1 = 0 := by omega
  have hz : dBody (dNum 4 ⟨b, e⟩).1 w ⟨b', e'⟩ = (⟨(dNum 4 ⟨b, e⟩).1, w, zN, zN⟩, ⟨b', e'⟩) := by
    rw [w0]; cases e' <;> rfl
  rw [hz] at hd
  rw [hd]
  have hno : ¬ (1 ≤ (dNum 4 ⟨b, e⟩).1 ∧ (dNum 4 ⟨b, e⟩).1 ≤ 4) := by omega
  refine Rq.mk hr ⟨fun h => ?_, fun h => ?_⟩
  · have h : w = [] := List.eq_nil_of_length_eq_zero (by simpa using h)
    subst h
    exact Rq.mk hno ⟨fun q => (nomatch q), fun _ => qfin rfl rfl rfl rfl⟩
  · exact Rq.mk hno ⟨fun q => (nomatch q), fun _ => qfin rfl rfl rfl rfl⟩
theorem dRead_sum : SumOK cxDRead (LL Tryz.f15 [lsDRead]) Tryz.f15.ntmps (loopAt Tryz.f15 0).1 (loopAt Tryz.f15 0).2 lsDRead := by
  intro vs bs K hs
  unfold lsDRead at hs
  simp only at hs
  split at hs
  case h_2 => exact hs.elim
  rename_i n b e o
  obtain ⟨⟨ho, hn0, hn⟩, h⟩ := hs
  obtain rfl : o = [] := List.eq_nil_of_length_eq_zero ho
  obtain ⟨n, rfl⟩ := Int.eq_ofNat_of_zero_le hn0
  rw [Int.toNat_natCast] at h
  have hmx : maxSl = 140737488355328 := rfl
  refine sum_rec (σ := Nat × DS × List Ed) (fun s => [.ptr 0 0, .own 1 0, .int .i64 (s.1 : Nat)]) (fun s => [.box [.str s.2.1.b, .bool s.2.1.bad], .rowb 0 .edit s.2.2]) (fun s => s.2.2 ++ (dEds s.1 s.2.1).1 = (dEds n ⟨b, e⟩).1 ∧ (dEds s.1 s.2.1).2 = (dEds n ⟨b, e⟩).2 ∧ s.1 + s.2.2.length ≤ 400) (fun s => s.1) ?_ (n, ⟨b, e⟩, []) ⟨rfl, rfl, by dsimp only; simp only [List.length_nil]; omega⟩
  rintro ⟨i, ⟨b', e'⟩, acc⟩ ⟨h1, h2, h3⟩ R hR
  dsimp only at h1 h2 h3 hR ⊢
  have fin : dEds i ⟨b', e'⟩ = ([], ⟨b', e'⟩) → K (.exit 0) [.ptr 0 0, .own 1 0] [.box [.str b', .bool e'], .rowb 0 .edit acc] := fun q => by
    rw [q, List.append_nil] at h1
    rw [q] at h2
    dsimp only at h1 h2
    rw [← h1, ← h2] at h
    exact h
  refine Eq.mpr (vcDReadB acc i b' e' _) ⟨fun q => ⟨fun q2 => ?_, fun q2 => fin ?_⟩, fun q => fin ?_⟩
  · have q := of_decide_eq_true q
    have q2 : e' = false := by simpa using q2
    subst q2
    rw [ed_eta]
    obtain ⟨i, rfl⟩ : ∃ c, i = c + 1 := ⟨i - 1, by omega⟩
    rw [dEds, if_neg (show ¬ (DS.mk b' false).bad = true from Bool.false_ne_true)] at h1 h2
    refine Rq.mk (by simp only [List.length_cons, List.length_nil]; omega) ?_
    have ew : IntKind.i64.wrap (((i + 1 : Nat) : Int) - 1) = (i : Int) := by rw [wrap_id'] <;> omega
    rw [ew]
    refine hR (i, (dEd ⟨b', false⟩).2, acc ++ [(dEd ⟨b', false⟩).1]) ⟨?_, h2, ?_⟩ (by dsimp only; omega)
    · dsimp only; rw [List.append_assoc]; exact h1
    · dsimp only; rw [List.length_append]; simp only [List.length_cons, List.length_nil]; omega
  · have q2 : e' = true := by simpa using q2
    subst q2
    cases i with
    | zero => rfl
    | succ i => rw [dEds, if_pos rfl]
  · have q := of_decide_eq_false q
    rw [show i = 0 by omega]; rfl
theorem dRead_holds : Holds 15 conDRead := conP_holds fun b => by
  rcases (show ∃ w : ByteArray, w = b from ⟨_, rfl⟩) with ⟨b, rfl⟩
  refine fun_meets1 (AllH.tok (.cons dNum_holds (by kernel_rfl) (.cons dEd_holds (by kernel_rfl) (.cons ckD_holds (by kernel_rfl) .nil)))) [.row .edit, .as] lsDRead (by kernel_rfl) (by kernel_rfl) dRead_sum fun _ => Eq.mpr (vcDReadF b _) ?_
  have hr := dNum_rng (m := 400) (by decide) ⟨b, false⟩
  have hd : dDel ⟨b, false⟩ = dEds (dNum 400 ⟨b, false⟩).1.toNat (dNum 400 ⟨b, false⟩).2 := rfl
  have hf := dDel_fine (b := b)
  have no : dlOK b = false → FinQ { res := .tup [.row .edit (dlL b), .int .i64 (dlE b)] } [AV.row Ty.edit [], AV.int IntKind.i64 4] [] [] := fun h => by
    refine qfin rfl ?_ rfl rfl
    show _ = [AV.row Ty.edit (dlL b), AV.int IntKind.i64 (dlE b)]
    unfold dlL dlE; rw [h]; rfl
  simp only [ds_eta]
  rw [← hd]
  refine Rq.mk ⟨by trivial, hr.1, hr.2⟩ ⟨fun h => no ?_, fun h => ⟨fun h1 => no ?_, fun h1 => Rq.mk (hf h) ⟨fun h2 => no ?_, fun h2 => ?_⟩⟩⟩
  · unfold dlOK; rw [h]; rfl
  · have h1 : eqS (dDel ⟨b, false⟩).2.b ⟨#[]⟩ = false := by rw [← Bool.not_eq_true']; exact h1
    unfold dlOK; rw [h1, Bool.and_false]; rfl
  · have h2 : (dchkS (dDel ⟨b, false⟩).1 == 0) = false := by simpa using h2
    unfold dlOK; rw [h2, Bool.and_false]
  · have h1 : eqS (dDel ⟨b, false⟩).2.b ⟨#[]⟩ = true := by rw [← Bool.not_eq_false']; exact h1
    have h2 : (dchkS (dDel ⟨b, false⟩).1 == 0) = true := by simpa using h2
    have ok : dlOK b = true := by unfold dlOK; rw [h, h1, h2]; rfl
    refine qfin rfl ?_ rfl rfl
    show _ = [AV.row Ty.edit (dlL b), AV.int IntKind.i64 (dlE b)]
    unfold dlL dlE; rw [ok]; rfl
end Go.Proofs.YtnhipiedjekkpaaGreatDoor.AX
end
section
namespace Go.Proofs.YtnhipiedjekkpaaGreatDoor.AX
open Go Go.RowKit
abbrev Tab := Nat → List AV → List Blk → Option Ans
def roundsX (Ts : Nat → Tab) (L : Loops) (n b : Nat) (c : Code) (keep left : List (Tmp × Want)) (K : Ex → List AV → List Blk → Prop) : Nat → List AV → List Blk → Prop
  | 0, _, _ => False
  | m + 1, vs, bs => ∃ j, bodyA (cxT (Ts j)) L n b c keep left (rk K (roundsX Ts L n b c keep left K m)) vs bs
theorem rounds_RX {w0 : World} {E F : Nat → Prop} {fix : List Nat} {L : Loops} {Ts : Nat → Tab} (tok : ∀ j, TOK (cxT (Ts j))) {n b : Nat} {c : Code} {keep left : List (Tmp × Want)} (hl : LoopsOK cx0 fix L b c) (hc : clearC fix c = true) {K : Ex → List AV → List Blk → Prop} {A : Nat → Option Value} (hA : ∀ d, A d ≠ none → d ∈ fix)
    {Q : Exit → Act → World → Prop} (hQ : ∀ e I a w vs bs, Rel cx0.tid w0 E F I (mkSt n left vs bs) a w → Kp A a → K e vs bs → Q (toExit e) a w) : ∀ (m : Nat) (vs : List AV) (bs : List Blk) (I : Im) (a : Act) (w : World), roundsX Ts L n b c keep left K m vs bs → Rel cx0.tid w0 E F I (mkSt n keep vs bs) a w → Kp A a → Code.rounds cx0.P c Q m a w
  | 0, _, _, _, _, _, h, _, _ => h.elim
  | m + 1, vs, bs, I, a, w, h, hR, hk => by
    obtain ⟨j, h⟩ := h
    simp only [bodyA, mkA_eq] at h
    rw [rounds_succ]
    refine wpA_sound (cxOK (Ts j)) (tok j) c b (show LoopsOK (cxT (Ts j)) fix L b c from hl) hc _ _ h w0 E F A I a w _ hA hR hk fun e I' s' a' w' r1 r2 r3 => ?_
    cases e with
    | norm =>
      obtain ⟨vs', bs', I2, h2, hR2⟩ := norm_R r1 r3
      exact rounds_RX tok hl hc hA hQ m vs' bs' I2 a' w' h2 hR2 r2
    | exit id =>
      obtain ⟨vs', bs', I2, h2, hR2⟩ := norm_R r1 r3
      exact hQ (.exit id) I2 a' w' vs' bs' hR2 r2 h2
    | ret =>
      obtain ⟨vs', bs', I2, h2, hR2⟩ := norm_R r1 r3
      exact hQ .ret I2 a' w' vs' bs' hR2 r2 h2
theorem loop_sndX {s : St} {fix : List Nat} {L : Loops} {Ts : Nat → Tab} (tok : ∀ j, TOK (cxT (Ts j))) {n b : Nat} {c : Code} {keep left : List (Tmp × Want)} {sum : List AV → List Blk → (Ex → List AV → List Blk → Prop) → Prop} (hl : LoopsOK cx0 fix L b c) (hc : clearC fix c = true)
    (hsum : ∀ vs bs K, sum vs bs K → ∃ m, roundsX Ts L n b c keep left K m vs bs) {K : Ex → St → Prop} (h : loopA n keep left sum s K) : Snd cx0 fix (.loop c) s K := by
  intro w0 E F A I a w Q hA hR hk hQ
  obtain ⟨vs, bs, I', h1, hR'⟩ := norm_R hR h
  obtain ⟨m, hm⟩ := hsum vs bs _ h1
  exact wp_loop_rounds m (rounds_RX tok hl hc hA (fun e I a w vs bs r1 r2 r3 => hQ e I _ a w r1 r2 (by rw [mkA_eq] at r3; exact r3)) m vs bs I' a w hm hR' hk)
def SumOKX (Ts : Nat → Tab) (L : Loops) (n : Nat) (b : Nat) (c : Code) (x : LS) : Prop := ∀ vs bs K, x.sum vs bs K → ∃ m, roundsX Ts L n b c x.keep x.left K m vs bs
theorem loopsOK_deepX {Ts : Nat → Tab} {fix : List Nat} {n : Nat} {l : List (Nat × LS)} (tok : ∀ j, TOK (cxT (Ts j))) : ∀ (c : Code) (b : Nat), clearC fix c = true → (∀ p ∈ deepLoops b c, ∀ x, lookLS l p.1 = some x → SumOKX Ts (Lof n l) n p.1 p.2 x) → LoopsOK cx0 fix (Lof n l) b c := by
  intro c
  induction c with
  | seq x y ihx ihy =>
    intro b hc h p hp
    simp only [clearC] at hc
    split at hc
    · rename_i hcx
      rcases List.mem_append.1 hp with hp | hp
      · exact ihx b hcx (fun p hp => h p (List.mem_append.2 (.inl hp))) p hp
      · exact ihy b hc (fun p hp => h p (List.mem_append.2 (.inr hp))) p hp
    · cases hc
  | cond c x y ihx ihy =>
    intro b hc h p hp
    simp only [clearC] at hc
    split at hc
    · rename_i hcx
      rcases List.mem_append.1 hp with hp | hp
      · exact ihx b hcx (fun p hp => h p (List.mem_append.2 (.inl hp))) p hp
      · exact ihy b hc (fun p hp => h p (List.mem_append.2 (.inr hp))) p hp
    · cases hc
  | block id c ih =>
    intro b hc h p hp
    exact ih id hc h p hp
  | scope c ih =>
    intro b hc h p hp
    exact ih b hc h p hp
  | loop c ih =>
    intro b hc h p hp s K hL
    simp only [loopsOf, List.mem_singleton] at hp
    subst hp
    unfold Lof at hL
    cases hx : lookLS l b with
    | none => rw [hx] at hL; exact hL.elim
    | some x =>
      rw [hx] at hL
      exact loop_sndX tok (ih b hc fun p hp => h p (.tail _ hp)) hc (h _ (.head _) x hx) hL
  | _ => intro b _ _ p hp; cases hp
theorem fun_meetsLX {Ts : Nat → Tab} (tok : ∀ j, TOK (cxT (Ts j))) (j0 : Nat) {f : Nat} {fn : Func} {args : List AV} {hp : List Blk} (ws : List Want) {ans : Ans} (lss : List LS) (hf : Tryz.prog.funcs[f]? = some fn) (hchk : okFn fn args hp ans lss.length = true)
    (hs : ∀ i x, lss[i]? = some x → SumOKX Ts (LL fn lss) fn.ntmps (loopAt fn i).1 (loopAt fn i).2 x)
    (h : (∀ p, ans.pre = some p → p) → funA (cxT (Ts j0)) (LL fn lss) fn args hp ws (FinQ ans)) : Meets cx0 f args hp ans := by
  simp only [okFn, okFnS, Bool.and_eq_true] at hchk
  obtain ⟨h0, ⟨⟨⟨h1, h2⟩, h3⟩, h4⟩, h5⟩ := hchk
  have e : ans.same = [] := by
    unfold noSame at h0
    split at h0
    · assumption
    · cases h0
  obtain ⟨c, hc⟩ := Option.isSome_iff_exists.1 h1
  have ec : fcode fn = c := by unfold fcode; rw [hc]; rfl
  refine meets_any (T := fun _ _ _ => none) (show Meets (cxT (Ts j0)) _ _ _ _ from ?_)
  refine fun_meetsS (ws := ws) (cxOK (Ts j0)) (tok j0) hf hc ?_ (by rw [← ec]; exact h2) h3 fun hp => by rw [e]; exact h hp
  rw [← ec]
  refine (show LoopsOK cx0 _ _ _ _ from ?_)
  refine loopsOK_deepX tok _ _ h2 fun p hp x hx => ?_
  obtain ⟨i, hi, rfl⟩ := List.getElem_of_mem hp
  have hxi := lookLS_zip (i := i) h5 (by simp [hi]) hx
  have := hs i x hxi
  have el : loopAt fn i = (deepLoops 0 (fcode fn))[i] := by
    unfold loopAt; rw [List.getD_eq_getElem?_getD, List.getElem?_eq_getElem hi]; rfl
  rw [el] at this
  exact this
theorem rounds_recX {Ts : Nat → Tab} {L : Loops} {n b : Nat} {c : Code} {keep left : List (Tmp × Want)} {K : Ex → List AV → List Blk → Prop} {σ : Type} (st : σ → List AV) (bl : σ → List Blk) (P : σ → Prop) (μ : σ → Nat)
    (hstep : ∀ s, P s → ∀ R : List AV → List Blk → Prop, (∀ s', P s' → μ s' < μ s → R (st s') (bl s')) → ∃ j, bodyA (cxT (Ts j)) L n b c keep left (rk K R) (st s) (bl s)) : ∀ (k : Nat) (s : σ), μ s < k → P s → roundsX Ts L n b c keep left K k (st s) (bl s)
  | 0, s, h, _ => absurd h (Nat.not_lt_zero _)
  | k + 1, s, h, hp => hstep s hp (roundsX Ts L n b c keep left K k) fun s' hp' hm => rounds_recX st bl P μ hstep k s' (by omega) hp'
theorem sum_recX {Ts : Nat → Tab} {L : Loops} {n b : Nat} {c : Code} {keep left : List (Tmp × Want)} {K : Ex → List AV → List Blk → Prop} {σ : Type} (st : σ → List AV) (bl : σ → List Blk) (P : σ → Prop) (μ : σ → Nat)
    (hstep : ∀ s, P s → ∀ R : List AV → List Blk → Prop, (∀ s', P s' → μ s' < μ s → R (st s') (bl s')) → ∃ j, bodyA (cxT (Ts j)) L n b c keep left (rk K R) (st s) (bl s)) (s : σ) (h : P s) : ∃ m, roundsX Ts L n b c keep left K m (st s) (bl s) :=
  ⟨μ s + 1, rounds_recX st bl P μ hstep _ s (Nat.lt_succ_self _) h⟩
end Go.Proofs.YtnhipiedjekkpaaGreatDoor.AX
end
section
namespace Go.Proofs.YtnhipiedjekkpaaGreatDoor.AXP
open Go Go.Proofs.YtnhipiedjekkpaaGreatDoor.AX
def wrE (x : Ed) : Int := if x.what = 1 then ndE x.new else if x.what = 2 then ndE x.old else if x.what = 3 then 0 else txtE x.new.text
def wrS (x : Ed) : ByteArray := if x.what = 1 then ndQ x.new else if x.what = 2 then ndQ x.old else if x.what = 3 then lsS (flA x.old.attrs) ++ lsS (flA x.new.attrs) else txtQ x.old.text ++ txtQ x.new.text
def dbE : List Ed → Int
  | [] => 0
  | x :: s => if wrE x = 0 then dbE s else wrE x
def pfx : List Ed → List UInt8
  | [] => []
  | x :: s => if wrE x = 0 then edL x ++ pfx s else []
def dlyE (s : List Ed) : Int := if dchkS s = 0 then dbE s else dchkS s
def dlyS (s : List Ed) : ByteArray := if dlyE s = 0 then bk (delL s) else ⟨#[]⟩
end Go.Proofs.YtnhipiedjekkpaaGreatDoor.AXP
namespace Go.Proofs.YtnhipiedjekkpaaGreatDoor.AX
open Go AXP
def tsDB (k : Nat) : Tab := tabLook [(13, conCkD), (22, conNumD), (21, conWrite), (24, conString), (23, conKindsK k), (45, conWrIn), (48, conWrOut), (51, conWrAts), (54, conWrTxt)]
noncomputable def cxDB (k : Nat) : Cx := cxT (tsDB k)
def lsDBo : LS where
  keep := [(5, .as), (23, .as), (24, .as), (25, .as)]
  left := [(5, .as), (2, .as), (3, .as)]
  sum := fun vs bs K => match vs, bs with
    | [.ptr 0 0, .row .edit s, .int .i64 m, .int .i64 i], [.bld t] => Rq (m = s.length ∧ i = 0 ∧ s.length ≤ 400 ∧ t.size ≤ 7 ∧ ∀ x ∈ s, plainB x = true ∧ fineEd x)
      (Br (dbE s == 0) (K (.exit 0) [.ptr 0 0, .any, .any] [.bld (t ++ bk (edsL s))]) (K .ret [.ptr 0 0, .str ⟨#[]⟩, .int .i64 (dbE s)] [.bld (t ++ bk (pfx s))]))
    | _, _ => False
def lsDBi : LS where
  keep := [(5, .as), (10, .as), (23, .as), (24, .as), (25, .as), (55, .as), (56, .as), (57, .as)]
  left := [(5, .as), (10, .as), (23, .as), (24, .as), (25, .as)]
  sum := fun vs bs K => match vs, bs with
    | [.ptr 0 0, .str b, .row .edit s, .int .i64 m, .int .i64 j, .row .int w, .int .i64 q, .int .i64 i], [.bld t] => Rq (q = w.length ∧ i = 0 ∧ w.length ≤ 41 ∧ t.size ≤ 2000000000 ∧ ∀ i ∈ w, 0 ≤ i ∧ i ≤ 300)
      (K (.exit 2) [.ptr 0 0, .str b, .row .edit s, .int .i64 m, .int .i64 j] [.bld (t ++ bk (wayL w))])
    | _, _ => False
def conDBytes : Con := conP [.row .edit] fun (s : List Ed) => { pre := some (fineEds s), res := .tup [.str (dlyS s), .int .i64 (dlyE s)] }
noncomputable def cxDSize : Cx := cxT (tabLook [(9, conDBytes)])
def conDSize : Con := conP [.row .edit] fun (s : List Ed) => { pre := some (fineEds s), res := .tup [.int .i64 (dlyS s).size, .int .i64 (dlyE s)] }
end Go.Proofs.YtnhipiedjekkpaaGreatDoor.AX
end
section
namespace Go.Proofs.YtnhipiedjekkpaaGreatDoor.AX
open Go AXP
set_option maxRecDepth 100000
theorem vcDBo1 (t : ByteArray) (s : List Ed) (m i : Int) (K : Ex → List AV → List Blk → Prop) : (bodyA (cxDB 1) (LL Tryz.f9 [lsDBo, lsDBi]) Tryz.f9.ntmps (loopAt Tryz.f9 0).1 (loopAt Tryz.f9 0).2 lsDBo.keep lsDBo.left K [.ptr 0 0, .row .edit s, .int .i64 m, .int .i64 i] [.bld t]) = (
Br (decide (i < m))
 (Rq ((0 : Int) ≤ i ∧ i < (↑s.length : Int))
 (Rq ((rd Ty.edit s i).1 = (1 : Int))
 (Rq
 (fineNds
 [Nd.mk (rd Ty.edit s i).4.1 (rd Ty.edit s i).4.2 (rd Ty.edit s i).4.3 (rd Ty.edit s i).4.4
 (rd Ty.edit s i).4.5 (rd Ty.edit s i).4.6])
 (Br
 (ndE
 (Nd.mk (rd Ty.edit s i).4.1 (rd Ty.edit s i).4.2 (rd Ty.edit s i).4.3 (rd Ty.edit s i).4.4
 (rd Ty.edit s i).4.5 (rd Ty.edit s i).4.6) !=
 (0 : Int))
 (K Ex.ret
 [AV.ptr (0 : Nat) (0 : Nat), AV.str (ByteArray.mk (Array.mk [])),
 AV.int IntKind.i64
 (ndE
 (Nd.mk (rd Ty.edit s i).4.1 (rd Ty.edit s i).4.2 (rd Ty.edit s i).4.3 (rd Ty.edit s i).4.4
 (rd Ty.edit s i).4.5 (rd Ty.edit s i).4.6))]
 [Blk.bld t])
 (Rq ((numS (rd Ty.edit s i).1).size + (numS (↑(rd Ty.edit s i).2.length : Int)).size ≤ maxSl)
 (Rq (t.size + (numS (rd Ty.edit s i).1 ++ numS (↑(rd Ty.edit s i).2.length : Int)).size ≤ maxSl)
 (Gv ((rd Ty.edit s i).2.length ≤ maxSl)
 (Gv ((rd Ty.edit s i).2.length ≤ maxSl)
 (Rq
 ((↑(rd Ty.edit s i).2.length : Int) = (↑(rd Ty.edit s i).2.length : Int) ∧
 (0 : Int) = (0 : Int) ∧
 (rd Ty.edit s i).2.length ≤ (41 : Nat) ∧
 (t ++ (numS (rd Ty.edit s i).1 ++ numS (↑(rd Ty.edit s i).2.length : Int))).size ≤
 (2000000000 : Nat) ∧
 ∀ (i_1 : den Ty.int),
 i_1 ∈ (rd Ty.edit s i).way → (0 : den Ty.int) ≤ i_1 ∧ i_1 ≤ (300 : den Ty.int))
 (Rq
 ((t ++ (numS (rd Ty.edit s i).1 ++ numS (↑(rd Ty.edit s i).2.length : Int)) ++
 bk (wayL (rd Ty.edit s i).2)).size +
 (ndQ
 (Nd.mk (rd Ty.edit s i).4.1 (rd Ty.edit s i).4.2 (rd Ty.edit s i).4.3 (rd Ty.edit s i).4.4
 (rd Ty.edit s i).4.5 (rd Ty.edit s i).4.6)).size ≤
 maxSl)
 (K Ex.norm
 [AV.ptr (0 : Nat) (0 : Nat), AV.row Ty.edit s, AV.int IntKind.i64 m,
 AV.int IntKind.i64 (IntKind.i64.wrap (i + (1 : Int)))]
 [Blk.bld
 (t ++ (numS (rd Ty.edit s i).1 ++ numS (↑(rd Ty.edit s i).2.length : Int)) ++
 bk (wayL (rd Ty.edit s i).2) ++
 ndQ
 (Nd.mk (rd Ty.edit s i).4.1 (rd Ty.edit s i).4.2 (rd Ty.edit s i).4.3
 (rd Ty.edit s i).4.4 (rd Ty.edit s i).4.5 (rd Ty.edit s i).4.6))])))))))))))
 (K (Ex.exit (0 : Nat)) [AV.ptr (0 : Nat) (0 : Nat), AV.any, AV.any] [Blk.bld t])) := by kernel_rfl
theorem vcDBo2 (t : ByteArray) (s : List Ed) (m i : Int) (K : Ex → List AV → List Blk → Prop) : (bodyA (cxDB 2) (LL Tryz.f9 [lsDBo, lsDBi]) Tryz.f9.ntmps (loopAt Tryz.f9 0).1 (loopAt Tryz.f9 0).2 lsDBo.keep lsDBo.left K [.ptr 0 0, .row .edit s, .int .i64 m, .int .i64 i] [.bld t]) = (
Br (decide (i < m))
 (Rq ((0 : Int) ≤ i ∧ i < (↑s.length : Int))
 (Rq ((rd Ty.edit s i).1 = (2 : Int))
 (Rq
 (fineNds
 [Nd.mk (rd Ty.edit s i).3.1 (rd Ty.edit s i).3.2 (rd Ty.edit s i).3.3 (rd Ty.edit s i).3.4
 (rd Ty.edit s i).3.5 (rd Ty.edit s i).3.6])
 (Br
 (ndE
 (Nd.mk (rd Ty.edit s i).3.1 (rd Ty.edit s i).3.2 (rd Ty.edit s i).3.3 (rd Ty.edit s i).3.4
 (rd Ty.edit s i).3.5 (rd Ty.edit s i).3.6) !=
 (0 : Int))
 (K Ex.ret
 [AV.ptr (0 : Nat) (0 : Nat), AV.str (ByteArray.mk (Array.mk [])),
 AV.int IntKind.i64
 (ndE
 (Nd.mk (rd Ty.edit s i).3.1 (rd Ty.edit s i).3.2 (rd Ty.edit s i).3.3 (rd Ty.edit s i).3.4
 (rd Ty.edit s i).3.5 (rd Ty.edit s i).3.6))]
 [Blk.bld t])
 (Rq ((numS (rd Ty.edit s i).1).size + (numS (↑(rd Ty.edit s i).2.length : Int)).size ≤ maxSl)
 (Rq (t.size + (numS (rd Ty.edit s i).1 ++ numS (↑(rd Ty.edit s i).2.length : Int)).size ≤ maxSl)
 (Gv ((rd Ty.edit s i).2.length ≤ maxSl)
 (Gv ((rd Ty.edit s i).2.length ≤ maxSl)
 (Rq
 ((↑(rd Ty.edit s i).2.length : Int) = (↑(rd Ty.edit s i).2.length : Int) ∧
 (0 : Int) = (0 : Int) ∧
 (rd Ty.edit s i).2.length ≤ (41 : Nat) ∧
 (t ++ (numS (rd Ty.edit s i).1 ++ numS (↑(rd Ty.edit s i).2.length : Int))).size ≤
 (2000000000 : Nat) ∧
 ∀ (i_1 : den Ty.int),
 i_1 ∈ (rd Ty.edit s i).way → (0 : den Ty.int) ≤ i_1 ∧ i_1 ≤ (300 : den Ty.int))
 (Rq
 ((t ++ (numS (rd Ty.edit s i).1 ++ numS (↑(rd Ty.edit s i).2.length : Int)) ++
 bk (wayL (rd Ty.edit s i).2)).size +
 (ndQ
 (Nd.mk (rd Ty.edit s i).3.1 (rd Ty.edit s i).3.2 (rd Ty.edit s i).3.3 (rd Ty.edit s i).3.4
 (rd Ty.edit s i).3.5 (rd Ty.edit s i).3.6)).size ≤
 maxSl)
 (K Ex.norm
 [AV.ptr (0 : Nat) (0 : Nat), AV.row Ty.edit s, AV.int IntKind.i64 m,
 AV.int IntKind.i64 (IntKind.i64.wrap (i + (1 : Int)))]
 [Blk.bld
 (t ++ (numS (rd Ty.edit s i).1 ++ numS (↑(rd Ty.edit s i).2.length : Int)) ++
 bk (wayL (rd Ty.edit s i).2) ++
 ndQ
 (Nd.mk (rd Ty.edit s i).3.1 (rd Ty.edit s i).3.2 (rd Ty.edit s i).3.3
 (rd Ty.edit s i).3.4 (rd Ty.edit s i).3.5 (rd Ty.edit s i).3.6))])))))))))))
 (K (Ex.exit (0 : Nat)) [AV.ptr (0 : Nat) (0 : Nat), AV.any, AV.any] [Blk.bld t])) := by kernel_rfl
theorem vcDBo3 (t : ByteArray) (s : List Ed) (m i : Int) (K : Ex → List AV → List Blk → Prop) : (bodyA (cxDB 3) (LL Tryz.f9 [lsDBo, lsDBi]) Tryz.f9.ntmps (loopAt Tryz.f9 0).1 (loopAt Tryz.f9 0).2 lsDBo.keep lsDBo.left K [.ptr 0 0, .row .edit s, .int .i64 m, .int .i64 i] [.bld t]) = (
Br (decide (i < m))
 (Rq ((0 : Int) ≤ i ∧ i < (↑s.length : Int))
 (Rq ((rd Ty.edit s i).1 = (3 : Int))
 (Rq ((rd Ty.edit s i).3.4.length ≤ (1000 : Nat) ∧ (rd Ty.edit s i).4.4.length ≤ (1000 : Nat))
 (Br false
 (K Ex.ret [AV.ptr (0 : Nat) (0 : Nat), AV.str (ByteArray.mk (Array.mk [])), AV.int IntKind.i64 (0 : Int)]
 [Blk.bld t])
 (Rq ((numS (rd Ty.edit s i).1).size + (numS (↑(rd Ty.edit s i).2.length : Int)).size ≤ maxSl)
 (Rq (t.size + (numS (rd Ty.edit s i).1 ++ numS (↑(rd Ty.edit s i).2.length : Int)).size ≤ maxSl)
 (Gv ((rd Ty.edit s i).2.length ≤ maxSl)
 (Gv ((rd Ty.edit s i).2.length ≤ maxSl)
 (Rq
 ((↑(rd Ty.edit s i).2.length : Int) = (↑(rd Ty.edit s i).2.length : Int) ∧
 (0 : Int) = (0 : Int) ∧
 (rd Ty.edit s i).2.length ≤ (41 : Nat) ∧
 (t ++ (numS (rd Ty.edit s i).1 ++ numS (↑(rd Ty.edit s i).2.length : Int))).size ≤
 (2000000000 : Nat) ∧
 ∀ (i_1 : den Ty.int),
 i_1 ∈ (rd Ty.edit s i).way → (0 : den Ty.int) ≤ i_1 ∧ i_1 ≤ (300 : den Ty.int))
 (Rq
 ((t ++ (numS (rd Ty.edit s i).1 ++ numS (↑(rd Ty.edit s i).2.length : Int)) ++
 bk (wayL (rd Ty.edit s i).2)).size +
 (lsS (flA (rd Ty.edit s i).3.4) ++ lsS (flA (rd Ty.edit s i).4.4)).size ≤
 maxSl)
 (K Ex.norm
 [AV.ptr (0 : Nat) (0 : Nat), AV.row Ty.edit s, AV.int IntKind.i64 m,
 AV.int IntKind.i64 (IntKind.i64.wrap (i + (1 : Int)))]
 [Blk.bld
 (t ++ (numS (rd Ty.edit s i).1 ++ numS (↑(rd Ty.edit s i).2.length : Int)) ++
 bk (wayL (rd Ty.edit s i).2) ++
 (lsS (flA (rd Ty.edit s i).3.4) ++ lsS (flA (rd Ty.edit s i).4.4)))])))))))))))
 (K (Ex.exit (0 : Nat)) [AV.ptr (0 : Nat) (0 : Nat), AV.any, AV.any] [Blk.bld t])) := by kernel_rfl
theorem vcDBo4 (t : ByteArray) (s : List Ed) (m i : Int) (K : Ex → List AV → List Blk → Prop) : (bodyA (cxDB 4) (LL Tryz.f9 [lsDBo, lsDBi]) Tryz.f9.ntmps (loopAt Tryz.f9 0).1 (loopAt Tryz.f9 0).2 lsDBo.keep lsDBo.left K [.ptr 0 0, .row .edit s, .int .i64 m, .int .i64 i] [.bld t]) = (
Br (decide (i < m))
 (Rq ((0 : Int) ≤ i ∧ i < (↑s.length : Int))
 (Rq ((rd Ty.edit s i).1 = (4 : Int))
 (Br (txtE (rd Ty.edit s i).4.5 != (0 : Int))
 (K Ex.ret
 [AV.ptr (0 : Nat) (0 : Nat), AV.str (ByteArray.mk (Array.mk [])),
 AV.int IntKind.i64 (txtE (rd Ty.edit s i).4.5)]
 [Blk.bld t])
 (Rq ((numS (rd Ty.edit s i).1).size + (numS (↑(rd Ty.edit s i).2.length : Int)).size ≤ maxSl)
 (Rq (t.size + (numS (rd Ty.edit s i).1 ++ numS (↑(rd Ty.edit s i).2.length : Int)).size ≤ maxSl)
 (Gv ((rd Ty.edit s i).2.length ≤ maxSl)
 (Gv ((rd Ty.edit s i).2.length ≤ maxSl)
 (Rq
 ((↑(rd Ty.edit s i).2.length : Int) = (↑(rd Ty.edit s i).2.length : Int) ∧
 (0 : Int) = (0 : Int) ∧
 (rd Ty.edit s i).2.length ≤ (41 : Nat) ∧
 (t ++ (numS (rd Ty.edit s i).1 ++ numS (↑(rd Ty.edit s i).2.length : Int))).size ≤
 (2000000000 : Nat) ∧
 ∀ (i_1 : den Ty.int),
 i_1 ∈ (rd Ty.edit s i).way → (0 : den Ty.int) ≤ i_1 ∧ i_1 ≤ (300 : den Ty.int))
 (Rq
 ((t ++ (numS (rd Ty.edit s i).1 ++ numS (↑(rd Ty.edit s i).2.length : Int)) ++
 bk (wayL (rd Ty.edit s i).2)).size +
 (txtQ (rd Ty.edit s i).3.5 ++ txtQ (rd Ty.edit s i).4.5).size ≤
 maxSl)
 (K Ex.norm
 [AV.ptr (0 : Nat) (0 : Nat), AV.row Ty.edit s, AV.int IntKind.i64 m,
 AV.int IntKind.i64 (IntKind.i64.wrap (i + (1 : Int)))]
 [Blk.bld
 (t ++ (numS (rd Ty.edit s i).1 ++ numS (↑(rd Ty.edit s i).2.length : Int)) ++
 bk (wayL (rd Ty.edit s i).2) ++
 (txtQ (rd Ty.edit s i).3.5 ++ txtQ (rd Ty.edit s i).4.5))]))))))))))
 (K (Ex.exit (0 : Nat)) [AV.ptr (0 : Nat) (0 : Nat), AV.any, AV.any] [Blk.bld t])) := by kernel_rfl
theorem vcDBi (k : Nat) (t b : ByteArray) (s : List Ed) (w : List Int) (m j q i : Int) (K : Ex → List AV → List Blk → Prop) : (bodyA (cxDB k) (LL Tryz.f9 [lsDBo, lsDBi]) Tryz.f9.ntmps (loopAt Tryz.f9 1).1 (loopAt Tryz.f9 1).2 lsDBi.keep lsDBi.left K [.ptr 0 0, .str b, .row .edit s, .int .i64 m, .int .i64 j, .row .int w, .int .i64 q, .int .i64 i] [.bld t]) = (
Br (decide (i < q))
 (Rq ((0 : Int) ≤ i ∧ i < (↑w.length : Int))
 (Rq (t.size + (numS (rd Ty.int w i)).size ≤ maxSl)
 (K Ex.norm
 [AV.ptr (0 : Nat) (0 : Nat), AV.str b, AV.row Ty.edit s, AV.int IntKind.i64 m, AV.int IntKind.i64 j,
 AV.row Ty.int w, AV.int IntKind.i64 q, AV.int IntKind.i64 (IntKind.i64.wrap (i + (1 : Int)))]
 [Blk.bld (t ++ numS (rd Ty.int w i))])))
 (K (Ex.exit (2 : Nat))
 [AV.ptr (0 : Nat) (0 : Nat), AV.str b, AV.row Ty.edit s, AV.int IntKind.i64 m, AV.int IntKind.i64 j] [Blk.bld t])) := by kernel_rfl
theorem vcDBF (s : List Ed) (Q : List AV → List Blk → List Blk → Prop) : (funA (cxDB 1) (LL Tryz.f9 [lsDBo, lsDBi]) Tryz.f9 [.row .edit s] [] [] Q) = (
Rq (fineEds s)
 (Br (dchkS s != (0 : Int)) (Q [AV.str (ByteArray.mk (Array.mk [])), AV.int IntKind.i64 (dchkS s)] [] [])
 (Rq ((ByteArray.mk (Array.mk [])).size + (numS (↑s.length : Int)).size ≤ maxSl)
 (Gv (s.length ≤ maxSl)
 (Gv (s.length ≤ maxSl)
 (Rq
 ((↑s.length : Int) = (↑s.length : Int) ∧
 (0 : Int) = (0 : Int) ∧
 s.length ≤ (400 : Nat) ∧
 (ByteArray.mk (Array.mk []) ++ numS (↑s.length : Int)).size ≤ (7 : Nat) ∧
 ∀ (x : den Ty.edit), x ∈ s → plainB x = true ∧ fineEd x)
 (Br (dbE s == (0 : Int))
 (Rq ((ByteArray.mk (Array.mk []) ++ numS (↑s.length : Int) ++ bk (edsL s)).size ≤ maxSl)
 (Q
 [AV.str (ByteArray.mk (Array.mk []) ++ numS (↑s.length : Int) ++ bk (edsL s)),
 AV.int IntKind.i64 (0 : Int)]
 [] []))
 (Q [AV.str (ByteArray.mk (Array.mk [])), AV.int IntKind.i64 (dbE s)] [] [])))))))) := by kernel_rfl
theorem vcDSizeF (s : List Ed) (Q : List AV → List Blk → List Blk → Prop) : (funA cxDSize (LL Tryz.f10 []) Tryz.f10 [.row .edit s] [] [] Q) = (
Rq (fineEds s)
 (Gv ((dlyS s).size ≤ maxSl) (Q [AV.int IntKind.i64 (↑(dlyS s).size : Int), AV.int IntKind.i64 (dlyE s)] [] []))) := by kernel_rfl
end Go.Proofs.YtnhipiedjekkpaaGreatDoor.AX
end
section
namespace Go.Proofs.YtnhipiedjekkpaaGreatDoor.AXP
open Go Go.Proofs.YtnhipiedjekkpaaGreatDoor.AX
theorem txtE_zero {s : ByteArray} : txtE s = 0 ↔ s.size ≤ 65536 := by
  unfold txtE
  split
  · rename_i h; exact ⟨fun _ => h, fun _ => rfl⟩
  · rename_i h; exact ⟨fun e => absurd e (by decide), fun e => absurd e h⟩
theorem ndE_zero {n : Nd} (h : ndE n = 0) : wrNd n ∧ ndQ n = bk (txtL (kb (bytS [n]))) := by
  unfold ndE at h
  split at h
  · rename_i h0
    have hs := txtE_zero.1 h
    refine ⟨⟨h0, hs⟩, ?_⟩
    unfold ndQ txtQ
    rw [if_pos h0, if_pos hs]
  · rename_i h0; exact absurd h h0
theorem wr_ok {x : Ed} (hp : plainB x = true) (h : wrE x = 0) : wrEd x ∧ wrS x = bk (bodyL x) ∧ (bodyL x).length ≤ 3146078 := by
  obtain ⟨p, _, _⟩ := plain_ok hp
  have hw0 := p.w0
  have hw1 := p.w1
  unfold wrE at h
  unfold wrS bodyL
  by_cases w1 : x.what = 1
  · rw [if_pos w1] at h
    obtain ⟨q1, q2⟩ := ndE_zero h
    rw [if_pos w1, if_pos w1]
    have := txtL_len6 q1.2
    have := q1.2
    exact ⟨⟨fun _ => q1, fun e => by omega⟩, q2, by omega⟩
  rw [if_neg w1] at h
  rw [if_neg w1, if_neg w1]
  by_cases w2 : x.what = 2
  · rw [if_pos w2] at h
    obtain ⟨q1, q2⟩ := ndE_zero h
    rw [if_pos w2, if_pos w2]
    have := txtL_len6 q1.2
    have := q1.2
    exact ⟨⟨fun e => by omega, fun _ => q1⟩, q2, by omega⟩
  rw [if_neg w2] at h
  rw [if_neg w2, if_neg w2]
  by_cases w3 : x.what = 3
  · obtain ⟨⟨_, a1, a2⟩, _, b1, b2⟩ := p.att w3
    obtain ⟨e1, l1⟩ := ats_ls (l := x.old.attrs) (by omega) a2
    obtain ⟨e2, l2⟩ := ats_ls (l := x.new.attrs) (by omega) b2
    rw [if_pos w3, if_pos w3, e1, e2]
    refine ⟨⟨fun e => by omega, fun e => by omega⟩, kb_inj (by rw [kb_app, kb_bk, kb_bk, kb_bk]), ?_⟩
    rw [List.length_append]; omega
  rw [if_neg w3, if_neg w3]
  have w4 : x.what = 4 := by omega
  obtain ⟨⟨_, a1⟩, _, b1⟩ := p.txt w4
  rw [if_pos w4]
  have := txtL_len6 a1
  have := txtL_len6 b1
  refine ⟨⟨fun e => by omega, fun e => by omega⟩, ?_, by rw [List.length_append]; omega⟩
  unfold txtQ
  rw [if_pos a1, if_pos b1]
  exact kb_inj (by rw [kb_app, kb_bk, kb_bk, kb_bk])
theorem wayL_le : ∀ {l : List Int}, (∀ i ∈ l, 0 ≤ i ∧ i ≤ 300) → (wayL l).length ≤ l.length * 7
  | [], _ => Nat.zero_le _
  | i :: l, h => by
    have hi := h i (.head _)
    have := wayL_le fun j hj => h j (.tail _ hj)
    have := numL_le (n := i.toNat) (by omega)
    rw [wayL, List.length_append, List.length_cons]; omega
theorem edL_le {x : Ed} (hp : plainB x = true) (h : wrE x = 0) : (edL x).length ≤ 3200000 := by
  obtain ⟨p, _, _⟩ := plain_ok hp
  have h0 := p.w0
  have h1 := p.w1
  have h2 := p.n1
  have := (wr_ok hp h).2.2
  have := wayL_le p.at_
  have := numL_le (n := x.what.toNat) (by omega)
  have := numL_le (n := x.way.length) (by omega)
  unfold edL
  simp only [List.length_append]; omega
theorem db_all : ∀ {s : List Ed}, dbE s = 0 → ∀ x ∈ s, wrE x = 0
  | [], _, x, h => by cases h
  | y :: s, h, x, hx => by
    rw [dbE] at h
    split at h
    · rename_i h1
      cases hx with
      | head => exact h1
      | tail _ hx => exact db_all h x hx
    · rename_i h1; exact absurd h h1
theorem pfx_eq : ∀ {s : List Ed}, dbE s = 0 → pfx s = edsL s
  | [], _ => rfl
  | y :: s, h => by
    rw [dbE] at h
    rw [pfx, edsL]
    split at h
    · rename_i h1
      rw [if_pos h1, pfx_eq h]
    · rename_i h1; exact absurd h h1
theorem pfx_le : ∀ {s : List Ed}, (∀ x ∈ s, plainB x = true) → (pfx s).length ≤ s.length * 3200000
  | [], _ => Nat.zero_le _
  | x :: s, h => by
    rw [pfx, List.length_cons]
    split
    · rename_i h1
      have := edL_le (h x (.head _)) h1
      have := pfx_le fun y hy => h y (.tail _ hy)
      rw [List.length_append]; omega
    · exact Nat.zero_le _
theorem dchk_zero {s : List Ed} (h : dchkS s = 0) : s.length ≤ 400 ∧ ∀ x ∈ s, plainB x = true := by
  unfold dchkS at h
  split at h
  · cases h
  rename_i h1
  split at h
  · cases h
  rename_i h2
  refine ⟨by omega, fun x hx => ?_⟩
  have h2 : s.any npB = false := by
    cases hq : s.any npB with
    | false => rfl
    | true => exact absurd hq h2
  have := List.any_eq_false.1 h2 x hx
  unfold npB at this
  simpa using this
end Go.Proofs.YtnhipiedjekkpaaGreatDoor.AXP
namespace Go.Proofs.YtnhipiedjekkpaaGreatDoor.AX
open Go AXP
set_option maxRecDepth 100000
theorem tokDB (k : Nat) : TOK (cxDB k) := AllH.tok (.cons ckD_holds (by kernel_rfl) (.cons numD_holds (by kernel_rfl) (.cons write_holds (by kernel_rfl) (.cons string_holds (by kernel_rfl) (.cons (kindsK_holds k) (by kernel_rfl) (.cons wrIn_holds (by kernel_rfl) (.cons wrOut_holds (by kernel_rfl) (.cons wrAts_holds (by kernel_rfl) (.cons wrTxt_holds (by kernel_rfl) .nil)))))))))
theorem dBi_sum : SumOKX tsDB (LL Tryz.f9 [lsDBo, lsDBi]) Tryz.f9.ntmps (loopAt Tryz.f9 1).1 (loopAt Tryz.f9 1).2 lsDBi := by
  intro vs bs K hs
  unfold lsDBi at hs
  simp only at hs
  split at hs
  case h_2 => exact hs.elim
  rename_i b s m j w q i t
  rcases (show ∃ v : List Int, v = w from ⟨_, rfl⟩) with ⟨w, rfl⟩
  obtain ⟨⟨rfl, rfl, hl, ht, hw⟩, h⟩ := hs
  have hmx : maxSl = 140737488355328 := rfl
  have hwl := wayL_le hw
  refine sum_recX (σ := Nat × ByteArray) (fun x => [.ptr 0 0, .str b, .row .edit s, .int .i64 m, .int .i64 j, .row .int w, .int .i64 w.length, .int .i64 (x.1 : Nat)]) (fun x => [.bld x.2]) (fun x => x.1 ≤ w.length ∧ x.2 ++ bk (wayL (w.drop x.1)) = t ++ bk (wayL w)) (fun x => w.length - x.1) ?_ (0, t) ⟨Nat.zero_le _, rfl⟩
  rintro ⟨i, c⟩ ⟨hi, he⟩ R hR
  dsimp only at hi he hR ⊢
  refine ⟨1, Eq.mpr (vcDBi 1 c b s w m j w.length i _) ⟨fun h1 => ?_, fun h1 => ?_⟩⟩
  · have hlt : i < w.length := by have := of_decide_eq_true h1; omega
    have hg : rd .int w (i : Int) = w[i] := rd_get (t := .int) hlt
    rw [hg]
    have hx : (0 : Int) ≤ w[i] ∧ w[i] ≤ 300 := hw _ (List.getElem_mem hlt)
    rw [List.drop_eq_getElem_cons hlt, wayL] at he
    have e : numS w[i] = bk (numL w[i].toNat) := by
      have := numS_nat (n := w[i].toNat) (by omega)
      rw [Int.toNat_of_nonneg hx.1] at this; exact this
    have hz := congrArg ByteArray.size he
    rw [ByteArray.size_append, ByteArray.size_append, bk_size, bk_size, List.length_append] at hz
    rw [e, wrap_succ hlt (by omega)]
    refine Rq.mk ⟨by omega, by omega⟩ (Rq.mk (by rw [bk_size]; omega) ?_)
    refine hR (i + 1, c ++ bk (numL w[i].toNat)) ⟨hlt, ?_⟩ (by dsimp only; omega)
    dsimp only
    rw [← he]
    apply kb_inj
    simp only [kb_app, kb_bk, List.append_assoc]
  · have hge : w.length ≤ i := by have := of_decide_eq_false h1; omega
    rw [List.drop_of_length_le hge] at he
    have : c = t ++ bk (wayL w) := by rw [← he]; apply kb_inj; rw [kb_app, kb_bk]; exact (List.append_nil _).symm
    rw [this]
    exact h
theorem dBo_sum : SumOKX tsDB (LL Tryz.f9 [lsDBo, lsDBi]) Tryz.f9.ntmps (loopAt Tryz.f9 0).1 (loopAt Tryz.f9 0).2 lsDBo := by
  intro vs bs K hs
  unfold lsDBo at hs
  simp only at hs
  split at hs
  case h_2 => exact hs.elim
  rename_i s m i t
  rcases (show ∃ v : List Ed, v = s from ⟨_, rfl⟩) with ⟨s, rfl⟩
  obtain ⟨⟨rfl, rfl, hl, ht, hp⟩, h⟩ := hs
  have hmx : maxSl = 140737488355328 := rfl
  have hpf := pfx_le fun x hx => (hp x hx).1
  refine sum_recX (σ := Nat × ByteArray) (fun x => [.ptr 0 0, .row .edit s, .int .i64 s.length, .int .i64 (x.1 : Nat)]) (fun x => [.bld x.2]) (fun x => x.1 ≤ s.length ∧ x.2 ++ bk (pfx (s.drop x.1)) = t ++ bk (pfx s) ∧ dbE (s.drop x.1) = dbE s) (fun x => s.length - x.1) ?_ (0, t) ⟨Nat.zero_le _, rfl, rfl⟩
  rintro ⟨i, c⟩ ⟨hi, he, hd⟩ R hR
  dsimp only at hi he hd hR ⊢
  have stop : ¬ (i : Int) < s.length → K (.exit 0) [.ptr 0 0, .any, .any] [.bld c] := fun h1 => by
    have hge : s.length ≤ i := by omega
    rw [List.drop_of_length_le hge] at he hd
    have hd : dbE s = 0 := hd.symm
    have : c = t ++ bk (edsL s) := by
      rw [← pfx_eq hd, ← he]; apply kb_inj; rw [kb_app, kb_bk]; exact (List.append_nil _).symm
    rw [this]
    exact h.yes (by rw [hd]; rfl)
  by_cases hlt : i < s.length
  · have hmem := List.getElem_mem hlt
    obtain ⟨hpl, hfi⟩ := hp _ hmem
    obtain ⟨P, _, _⟩ := plain_ok hpl
    have w0 := P.w0
    have w1 := P.w1
    rw [List.drop_eq_getElem_cons hlt, pfx] at he
    rw [List.drop_eq_getElem_cons hlt, dbE] at hd
    have bad : ¬ wrE s[i] = 0 → K .ret [.ptr 0 0, .str ⟨#[]⟩, .int .i64 (wrE s[i])] [.bld c] := fun hw => by
      rw [if_neg hw] at he hd
      have : c = t ++ bk (pfx s) := by rw [← he]; apply kb_inj; rw [kb_app, kb_bk]; exact (List.append_nil _).symm
      rw [this, hd]
      exact h.no (by rw [← hd]; simpa using hw)
    have good : wrE s[i] = 0 → (numS s[i].what).size + (numS (s[i].way.length : Int)).size ≤ maxSl ∧ c.size + (numS s[i].what ++ numS (s[i].way.length : Int)).size ≤ maxSl ∧ (c ++ (numS s[i].what ++ numS (s[i].way.length : Int))).size ≤ 2000000000 ∧
        (c ++ (numS s[i].what ++ numS (s[i].way.length : Int)) ++ bk (wayL s[i].way)).size + (wrS s[i]).size ≤ maxSl ∧
        R [.ptr 0 0, .row .edit s, .int .i64 s.length, .int .i64 ((i + 1 : Nat) : Int)] [.bld (c ++ (numS s[i].what ++ numS (s[i].way.length : Int)) ++ bk (wayL s[i].way) ++ wrS s[i])] := fun hw => by
      rw [if_pos hw] at he hd
      obtain ⟨_, q2, q3⟩ := wr_ok hpl hw
      have n1 := numS_le s[i].what
      have n2 := numS_le (s[i].way.length : Int)
      have n3 := wayL_le P.at_
      have n4 := P.n1
      have hz := congrArg ByteArray.size he
      rw [ByteArray.size_append, ByteArray.size_append, bk_size, bk_size, List.length_append] at hz
      have hc : c.size ≤ 1400000000 := by omega
      have e1 : numS s[i].what = bk (numL s[i].what.toNat) := by
        have := numS_nat (n := s[i].what.toNat) (by omega)
        rw [Int.toNat_of_nonneg (by omega)] at this; exact this
      have e2 : numS (s[i].way.length : Int) = bk (numL s[i].way.length) := numS_nat (by omega)
      refine ⟨by omega, by rw [ByteArray.size_append]; omega, by simp only [ByteArray.size_append]; omega, by rw [q2]; simp only [ByteArray.size_append, bk_size]; omega, ?_⟩
      refine hR (i + 1, _) ⟨hlt, ?_, hd⟩ (by dsimp only; omega)
      dsimp only
      rw [← he, q2, e1, e2]
      unfold edL
      apply kb_inj
      simp only [kb_app, kb_bk, List.append_assoc]
    have lt : (0 : Int) ≤ (i : Int) ∧ (i : Int) < (s.length : Int) := ⟨by omega, by omega⟩
    have no : decide ((i : Int) < (s.length : Int)) = false → K (.exit 0) [.ptr 0 0, .any, .any] [.bld c] := fun h1 => stop (of_decide_eq_false h1)
    by_cases k1 : s[i].what = 1
    · have ew : wrE s[i] = ndE s[i].new := by unfold wrE; rw [if_pos k1]
      have es : wrS s[i] = ndQ s[i].new := by unfold wrS; rw [if_pos k1]
      rw [ew] at bad good
      rw [es] at good
      refine ⟨1, Eq.mpr (vcDBo1 c s s.length i _) ⟨fun h1 => ?_, no⟩⟩
      rw [rd_ed hlt]
      simp only [nd_eta]
      refine Rq.mk lt (Rq.mk k1 (Rq.mk (hfi.1 k1) ⟨fun h2 => bad (by simpa using h2), fun h2 => ?_⟩))
      obtain ⟨g1, g2, g3, g4, g5⟩ := good (by simpa using h2)
      rw [wrap_succ hlt (by omega)]
      exact Rq.mk g1 (Rq.mk g2 ⟨fun _ => ⟨fun _ => Rq.mk ⟨by trivial, by trivial, P.n1, g3, P.at_⟩ (Rq.mk g4 g5)⟩⟩)
    by_cases k2 : s[i].what = 2
    · have ew : wrE s[i] = ndE s[i].old := by unfold wrE; rw [if_neg k1, if_pos k2]
      have es : wrS s[i] = ndQ s[i].old := by unfold wrS; rw [if_neg k1, if_pos k2]
      rw [ew] at bad good
      rw [es] at good
      refine ⟨2, Eq.mpr (vcDBo2 c s s.length i _) ⟨fun h1 => ?_, no⟩⟩
      rw [rd_ed hlt]
      simp only [nd_eta]
      refine Rq.mk lt (Rq.mk k2 (Rq.mk (hfi.2 k2) ⟨fun h2 => bad (by simpa using h2), fun h2 => ?_⟩))
      obtain ⟨g1, g2, g3, g4, g5⟩ := good (by simpa using h2)
      rw [wrap_succ hlt (by omega)]
      exact Rq.mk g1 (Rq.mk g2 ⟨fun _ => ⟨fun _ => Rq.mk ⟨by trivial, by trivial, P.n1, g3, P.at_⟩ (Rq.mk g4 g5)⟩⟩)
    by_cases k3 : s[i].what = 3
    · have ew : wrE s[i] = 0 := by unfold wrE; rw [if_neg k1, if_neg k2, if_pos k3]
      have es : wrS s[i] = lsS (flA s[i].old.attrs) ++ lsS (flA s[i].new.attrs) := by unfold wrS; rw [if_neg k1, if_neg k2, if_pos k3]
      rw [es] at good
      obtain ⟨⟨_, a1, _⟩, _, b1, _⟩ := P.att k3
      refine ⟨3, Eq.mpr (vcDBo3 c s s.length i _) ⟨fun h1 => ?_, no⟩⟩
      rw [rd_ed hlt]
      refine Rq.mk lt (Rq.mk k3 (Rq.mk ⟨Nat.le_trans a1 (by decide), Nat.le_trans b1 (by decide)⟩ ⟨fun h2 => (nomatch h2), fun _ => ?_⟩))
      obtain ⟨g1, g2, g3, g4, g5⟩ := good ew
      rw [wrap_succ hlt (by omega)]
      exact Rq.mk g1 (Rq.mk g2 ⟨fun _ => ⟨fun _ => Rq.mk ⟨by trivial, by trivial, P.n1, g3, P.at_⟩ (Rq.mk g4 g5)⟩⟩)
    have k4 : s[i].what = 4 := by omega
    have ew : wrE s[i] = txtE s[i].new.text := by unfold wrE; rw [if_neg k1, if_neg k2, if_neg k3]
    have es : wrS s[i] = txtQ s[i].old.text ++ txtQ s[i].new.text := by unfold wrS; rw [if_neg k1, if_neg k2, if_neg k3]
    rw [ew] at bad good
    rw [es] at good
    refine ⟨4, Eq.mpr (vcDBo4 c s s.length i _) ⟨fun h1 => ?_, no⟩⟩
    rw [rd_ed hlt]
    refine Rq.mk lt (Rq.mk k4 ⟨fun h2 => bad (by simpa using h2), fun h2 => ?_⟩)
    obtain ⟨g1, g2, g3, g4, g5⟩ := good (by simpa using h2)
    rw [wrap_succ hlt (by omega)]
    exact Rq.mk g1 (Rq.mk g2 ⟨fun _ => ⟨fun _ => Rq.mk ⟨by trivial, by trivial, P.n1, g3, P.at_⟩ (Rq.mk g4 g5)⟩⟩)
  · refine ⟨1, Eq.mpr (vcDBo1 c s s.length i _) ⟨fun h1 => absurd (of_decide_eq_true h1) (by omega), fun h1 => stop (of_decide_eq_false h1)⟩⟩
theorem dBytes_holds : Holds 9 conDBytes := conP_holds fun s => by
  rcases (show ∃ v : List Ed, v = s from ⟨_, rfl⟩) with ⟨s, rfl⟩
  refine fun_meetsLX (Ts := tsDB) tokDB 1 [] [lsDBo, lsDBi] (by kernel_rfl) (by kernel_rfl) (fun i x hx => ?_) fun hpre => Eq.mpr (vcDBF s _) ?_
  · match i, hx with
    | 0, hx => simp at hx; subst hx; exact dBo_sum
    | 1, hx => simp at hx; subst hx; exact dBi_sum
    | i + 2, hx => simp at hx
  have hf : fineEds s := hpre _ rfl
  have hmx : maxSl = 140737488355328 := rfl
  have fin : ∀ b e, dlyS s = b → dlyE s = e → FinQ { pre := some (fineEds s), res := .tup [.str (dlyS s), .int .i64 (dlyE s)] } [AV.str b, AV.int .i64 e] [] [] := fun b e h1 h2 => qfin rfl (by rw [h1, h2]; rfl) rfl rfl
  have n1 := numS_le (s.length : Int)
  have z : (ByteArray.mk (Array.mk []) : ByteArray).size = 0 := rfl
  refine Rq.mk hf ⟨fun h => ?_, fun h => ?_⟩
  · have h : ¬ dchkS s = 0 := by simpa using h
    have e : dlyE s = dchkS s := by unfold dlyE; rw [if_neg h]
    exact fin _ _ (by unfold dlyS; rw [e, if_neg h]) e
  · have h : dchkS s = 0 := by simpa using h
    obtain ⟨c1, c2⟩ := dchk_zero h
    have e : dlyE s = dbE s := by unfold dlyE; rw [if_pos h]
    refine Rq.mk (by omega) ⟨fun _ => ⟨fun _ => Rq.mk ⟨rfl, rfl, c1, by rw [ByteArray.size_append]; omega, fun x hx => ⟨c2 x hx, hf x hx⟩⟩ ⟨fun h1 => ?_, fun h1 => ?_⟩⟩⟩
    · have h1 : dbE s = 0 := by simpa using h1
      have hp := pfx_le c2
      rw [pfx_eq h1] at hp
      refine Rq.mk (by simp only [ByteArray.size_append, bk_size]; omega) (fin _ _ ?_ (by rw [e, h1]))
      unfold dlyS
      rw [e, if_pos h1, numS_nat (by omega)]
      apply kb_inj
      rw [kb_app, kb_app, kb_bk, kb_bk, kb_bk]; rfl
    · have h1 : ¬ dbE s = 0 := by simpa using h1
      exact fin _ _ (by unfold dlyS; rw [e, if_neg h1]) e
theorem dSize_holds : Holds 10 conDSize := conP_holds fun s => by
  rcases (show ∃ v : List Ed, v = s from ⟨_, rfl⟩) with ⟨s, rfl⟩
  refine fun_meets0 (AllH.tok (.cons dBytes_holds (by kernel_rfl) .nil)) [] (by kernel_rfl) (by kernel_rfl) fun hpre => Eq.mpr (vcDSizeF s _) ?_
  exact Rq.mk (hpre _ rfl) ⟨fun _ => qfin rfl rfl rfl rfl⟩
end Go.Proofs.YtnhipiedjekkpaaGreatDoor.AX
end
section
namespace Go.Proofs.YtnhipiedjekkpaaGreatDoor.AXP
open Go Go.Proofs.YtnhipiedjekkpaaGreatDoor.AX
def ed23 : Ed := ⟨4, [0], ⟨0, 0, ⟨#[]⟩, [], ⟨#[97]⟩, []⟩, ⟨0, 0, ⟨#[]⟩, [], ⟨#[98]⟩, []⟩⟩
end Go.Proofs.YtnhipiedjekkpaaGreatDoor.AXP
namespace Go.Proofs.YtnhipiedjekkpaaGreatDoor.AX
open Go AXP
noncomputable def cxEmp : Cx := cxT (tabLook [(9, conDBytes), (15, conDRead), (10, conDSize), (13, conCkD)])
def conEmp : Con := conP [] { res := .bool true }
end Go.Proofs.YtnhipiedjekkpaaGreatDoor.AX
end
section
namespace Go.Proofs.YtnhipiedjekkpaaGreatDoor.AX
open Go AXP
set_option maxRecDepth 100000
theorem vcEmpF (Q : List AV → List Blk → List Blk → Prop) : (funA cxEmp (LL Tryz.f8 []) Tryz.f8 [] [] [] Q) = (
Rq (fineEds [])
 (Rq
 (fineEds
 [Ed.mk (4 : Int) [(0 : Int)]
 (Nd.mk (0 : Int) (0 : Int) (ByteArray.mk (Array.mk [])) [] (ByteArray.mk (Array.mk [(97 : UInt8)])) [])
 (Nd.mk (0 : Int) (0 : Int) (ByteArray.mk (Array.mk [])) [] (ByteArray.mk (Array.mk [(98 : UInt8)])) [])])
 (Rq
 (fineEds
 [Ed.mk (4 : Int) [(0 : Int)]
 (Nd.mk (0 : Int) (0 : Int) (ByteArray.mk (Array.mk [])) [] (ByteArray.mk (Array.mk [(97 : UInt8)])) [])
 (Nd.mk (0 : Int) (0 : Int) (ByteArray.mk (Array.mk [])) [] (ByteArray.mk (Array.mk [(98 : UInt8)])) [])])
 (Br true
 (Br true
 (Br true
 (Br true
 (Br (eqS (dlyS []) (ByteArray.mk (Array.mk [(0 : UInt8)])))
 (Br true
 (Rq
 ((0 : Int) ≤ (0 : Int) ∧
 (0 : Int) <
 (↑(dlL
 (dlyS
 [Ed.mk (4 : Int) [(0 : Int)]
 (Nd.mk (0 : Int) (0 : Int) (ByteArray.mk (Array.mk [])) []
 (ByteArray.mk (Array.mk [(97 : UInt8)])) [])
 (Nd.mk (0 : Int) (0 : Int) (ByteArray.mk (Array.mk [])) []
 (ByteArray.mk (Array.mk [(98 : UInt8)])) [])])).length :
 Int))
 (Br
 (eqS
 (ttS
 (ttR
 (tkR
 (tkR
 (tkR
 (tkR
 (dlyS
 [Ed.mk (4 : Int) [(0 : Int)]
 (Nd.mk (0 : Int) (0 : Int) (ByteArray.mk (Array.mk [])) []
 (ByteArray.mk (Array.mk [(97 : UInt8)])) [])
 (Nd.mk (0 : Int) (0 : Int) (ByteArray.mk (Array.mk [])) []
 (ByteArray.mk (Array.mk [(98 : UInt8)])) [])])))))))
 (ByteArray.mk (Array.mk [(98 : UInt8)])))
 (Br true
 (Rq
 (fineEds
 [Ed.mk (4 : Int) [(0 : Int)]
 (Nd.mk (0 : Int) (0 : Int) (ByteArray.mk (Array.mk [])) []
 (ByteArray.mk (Array.mk [(97 : UInt8)])) [])
 (Nd.mk (0 : Int) (0 : Int) (ByteArray.mk (Array.mk [])) []
 (ByteArray.mk (Array.mk [(98 : UInt8)])) [])])
 (Gv
 ((dlL
 (dlyS
 [Ed.mk (4 : Int) [(0 : Int)]
 (Nd.mk (0 : Int) (0 : Int) (ByteArray.mk (Array.mk [])) []
 (ByteArray.mk (Array.mk [(97 : UInt8)])) [])
 (Nd.mk (0 : Int) (0 : Int) (ByteArray.mk (Array.mk [])) []
 (ByteArray.mk (Array.mk [(98 : UInt8)])) [])])).length ≤
 maxSl)
 (Gv
 ((dlyS
 [Ed.mk (4 : Int) [(0 : Int)]
 (Nd.mk (0 : Int) (0 : Int) (ByteArray.mk (Array.mk [])) []
 (ByteArray.mk (Array.mk [(97 : UInt8)])) [])
 (Nd.mk (0 : Int) (0 : Int) (ByteArray.mk (Array.mk [])) []
 (ByteArray.mk (Array.mk [(98 : UInt8)])) [])]).size ≤
 maxSl)
 (Q [AV.bool true] [] []))))
 (Gv
 ((dlL
 (dlyS
 [Ed.mk (4 : Int) [(0 : Int)]
 (Nd.mk (0 : Int) (0 : Int) (ByteArray.mk (Array.mk [])) []
 (ByteArray.mk (Array.mk [(97 : UInt8)])) [])
 (Nd.mk (0 : Int) (0 : Int) (ByteArray.mk (Array.mk [])) []
 (ByteArray.mk (Array.mk [(98 : UInt8)])) [])])).length ≤
 maxSl)
 (Gv
 ((dlyS
 [Ed.mk (4 : Int) [(0 : Int)]
 (Nd.mk (0 : Int) (0 : Int) (ByteArray.mk (Array.mk [])) []
 (ByteArray.mk (Array.mk [(97 : UInt8)])) [])
 (Nd.mk (0 : Int) (0 : Int) (ByteArray.mk (Array.mk [])) []
 (ByteArray.mk (Array.mk [(98 : UInt8)])) [])]).size ≤
 maxSl)
 (Q [AV.bool false] [] []))))
 (Gv
 ((dlL
 (dlyS
 [Ed.mk (4 : Int) [(0 : Int)]
 (Nd.mk (0 : Int) (0 : Int) (ByteArray.mk (Array.mk [])) []
 (ByteArray.mk (Array.mk [(97 : UInt8)])) [])
 (Nd.mk (0 : Int) (0 : Int) (ByteArray.mk (Array.mk [])) []
 (ByteArray.mk (Array.mk [(98 : UInt8)])) [])])).length ≤
 maxSl)
 (Q [AV.bool false] [] []))))
 (Gv
 ((dlL
 (dlyS
 [Ed.mk (4 : Int) [(0 : Int)]
 (Nd.mk (0 : Int) (0 : Int) (ByteArray.mk (Array.mk [])) []
 (ByteArray.mk (Array.mk [(97 : UInt8)])) [])
 (Nd.mk (0 : Int) (0 : Int) (ByteArray.mk (Array.mk [])) []
 (ByteArray.mk (Array.mk [(98 : UInt8)])) [])])).length ≤
 maxSl)
 (Q [AV.bool false] [] [])))
 (Q [AV.bool false] [] []))
 (Q [AV.bool false] [] []))
 (Q [AV.bool false] [] []))
 (Q [AV.bool false] [] []))
 (Q [AV.bool false] [] []))))) := by kernel_rfl
end Go.Proofs.YtnhipiedjekkpaaGreatDoor.AX
end
section
namespace Go.Proofs.YtnhipiedjekkpaaGreatDoor.AXP
open Go Go.Proofs.YtnhipiedjekkpaaGreatDoor.AX
theorem eqEdD_self (x : Ed) : eqEd x x = true := by
  unfold eqEd
  rw [eql_self eqI_self, eqNd_self, eqNd_self]; simp
theorem dly_zero {s : List Ed} (h : dlyE s = 0) : s.length ≤ 400 ∧ (∀ x ∈ s, PlainP x ∧ wrEd x) ∧ dlyS s = bk (delL s) ∧ dchkS s = 0 := by
  have h0 := h
  unfold dlyE at h
  split at h
  · rename_i h1
    obtain ⟨c1, c2⟩ := dchk_zero h1
    refine ⟨c1, fun x hx => ⟨(plain_ok (c2 x hx)).1, (wr_ok (c2 x hx) (db_all h x hx)).1⟩, ?_, h1⟩
    unfold dlyS; rw [if_pos h0]
  · rename_i h1; exact absurd h h1
theorem del_read {s : List Ed} (h : dlyE s = 0) : dlL (dlyS s) = s ∧ dlE (dlyS s) = 0 := by
  obtain ⟨h1, h2, h3, h4⟩ := dly_zero h
  have hp := pDel_bytes h1 h2 []
  rw [List.append_nil] at hp
  have hd := dDel_ok.2 (dlyS s)
  rw [h3, kb_bk, hp] at hd
  have hd : dDel ⟨bk (delL s), false⟩ = (s, ⟨bk [], false⟩) := hd
  have ok : dlOK (dlyS s) = true := by
    unfold dlOK
    rw [h3, hd, h4]
    dsimp only
    rw [show eqS (bk []) ⟨#[]⟩ = true from eqS_iff.2 rfl]; rfl
  unfold dlL dlE
  rw [if_pos ok, if_pos ok, h3, hd]
  exact ⟨rfl, rfl⟩
theorem fine23 : fineEds [ed23] := fun x hx => by
  rw [List.mem_singleton] at hx
  subst hx
  exact ⟨fun e => absurd (show (4 : Int) = 1 from e) (by decide), fun e => absurd (show (4 : Int) = 2 from e) (by decide)⟩
theorem dlyE23 : dlyE [ed23] = 0 := by decide +kernel
end Go.Proofs.YtnhipiedjekkpaaGreatDoor.AXP
namespace Go.Proofs.YtnhipiedjekkpaaGreatDoor.AX
open Go AXP
set_option maxRecDepth 100000
theorem emp_holds : Holds 8 conEmp := conP_holds <| by
  refine fun_meets0 (AllH.tok (.cons dBytes_holds (by kernel_rfl) (.cons dRead_holds (by kernel_rfl) (.cons dSize_holds (by kernel_rfl) (.cons ckD_holds (by kernel_rfl) .nil))))) [] (by kernel_rfl) (by kernel_rfl) fun _ => Eq.mpr (vcEmpF _) ?_
  have hl : (0 : Int) < ((dlL (dlyS [ed23])).length : Int) := by rw [(del_read dlyE23).1]; decide
  refine Rq.mk (fun x hx => (nomatch hx)) (Rq.mk fine23 (Rq.mk fine23 ⟨fun _ => ⟨fun _ => ⟨fun _ => ⟨fun _ => ⟨fun _ => ⟨fun _ => Rq.mk ⟨by decide, hl⟩ ⟨fun _ => ⟨fun _ => Rq.mk fine23 ⟨fun _ => ⟨fun _ => qfin rfl rfl rfl rfl⟩⟩, fun h => (nomatch h)⟩, fun h => absurd h (by decide +kernel)⟩, fun h => (nomatch h)⟩, fun h => absurd h (by decide +kernel)⟩, fun h => (nomatch h)⟩, fun h => (nomatch h)⟩, fun h => (nomatch h)⟩, fun h => (nomatch h)⟩))
end Go.Proofs.YtnhipiedjekkpaaGreatDoor.AX
end
section
namespace Go.Proofs.YtnhipiedjekkpaaGreatDoor.AXP
open Go Go.Proofs.YtnhipiedjekkpaaGreatDoor.AX
def encS (c : Int) : ByteArray := bk ((encB c).map fun x => UInt8.ofNat x.toNat)
def lowB (s : ByteArray) (i : Int) : Int := if ct ((bl s).getD i.toNat (-1)) = true then (bl s).getD i.toNat (-1) - 128 else -1
def gA (s : ByteArray) (i : Int) : Int × Int × Bool := uDecL ((bl s).drop i.toNat)
def uFrom (s : ByteArray) (i : Int) : List Int × Bool := uAll (s.size - i.toNat) ((bl s).drop i.toNat)
def mor (b : Int) : Bool := (decide (48 ≤ b) && decide (b ≤ 58)) || b == 45
def nmR : Nat → List UInt8 → Bool
  | _, [] => true
  | i, b :: l => (smI (b.toNat : Int) || (i != 0 && mor (b.toNat : Int))) && nmR (i + 1) l
end Go.Proofs.YtnhipiedjekkpaaGreatDoor.AXP
namespace Go.Proofs.YtnhipiedjekkpaaGreatDoor.AX
open Go AXP
def conIs2 : Con := conP [.int] fun (c : Int) => { res := .bool (isC c) }
noncomputable def cxBy2 : Cx := cxT (tabLook [(155, conIs2)])
def conBy2 : Con := conP [.int] fun (c : Int) => { pre := some (isC c = true), res := .str (encS c) }
def conLow : Con := conP [.str, .int] fun (s : ByteArray) (i : Int) => { pre := some (0 ≤ i), res := .int .i64 (lowB s i) }
noncomputable def cxAt2 : Cx := cxT (tabLook [(155, conIs2), (156, conBy2), (154, conLow)])
def conAt2 : Con := conP [.str, .int] fun (s : ByteArray) (i : Int) => { pre := some (0 ≤ i ∧ i < s.size ∧ s.size ≤ 1000000), res := .agg [.int .i64 (gA s i).1, .int .i64 (gA s i).2.1, .bool (gA s i).2.2] }
noncomputable def cxOf : Cx := cxT (tabLook [(146, conAt2)])
def lsOf : LS where
  keep := [(0, .as), (2, .as), (3, .as), (4, .as)]
  left := [(2, .as), (3, .as)]
  sum := fun vs bs K => match vs, bs with
    | [.str s, .ptr 0 0, .ptr 1 0, .int .i64 i], [.box [.nil, .bool z], .box [.nil, .bool r]] => Rq (i = 0 ∧ s.size ≤ 1000000 ∧ r = true)
      (Br ((uFrom s 0).1.length == 0)
        (K (.exit 0) [.ptr 0 0, .ptr 1 0] [.box [.nil, .bool z], .box [.nil, .bool (uFrom s 0).2]])
        (K (.exit 0) [.ptr 0 0, .ptr 1 0] [.box [.nil, .bool z], .box [.own 2 0, .bool (uFrom s 0).2], .rowb 0 .int (uFrom s 0).1]))
    | _, _ => False
def conOf : Con := conP [.str] fun (s : ByteArray) => { pre := some (s.size ≤ 1000000), res := .agg [.row .int (uFrom s 0).1, .bool (uFrom s 0).2] }
def lsNm6 : LS where
  keep := [(0, .as), (3, .as)]
  left := [(0, .as), (2, .as)]
  sum := fun vs bs K => match vs, bs with
    | [.str s, .int .i64 i], [] => Rq (i = 0) (Br (nmR 0 (kb s)) (K (.exit 0) [.str s, .any] []) (K .ret [.str s, .bool false] []))
    | _, _ => False
noncomputable def cxGd6 : Cx := cxT (tabLook [(136, conOf)])
def lsGd6 : LS where
  keep := [(0, .as), (3, .as)]
  left := [(0, .as), (2, .as)]
  sum := fun vs bs K => match vs, bs with
    | [.str s, .int .i64 i], [] => Rq (i = 0) (Br (allP gd1 s) (K (.exit 0) [.str s, .any] []) (K .ret [.str s, .bool false] []))
    | _, _ => False
def conGd6 : Con := conP [.str] fun (s : ByteArray) => { pre := some (s.size ≤ 1000000), res := .bool (goodB s) }
noncomputable def cxWr6 : Cx := cxT (tabLook [(137, conNameP), (123, conGd6)])
def lsWr0 : LS where
  keep := [(1, .as), (14, .as), (15, .as), (16, .as)]
  left := [(1, .as), (4, .as)]
  sum := fun vs bs K => match vs, bs with
    | [.row .attr a, .row .attr a', .int .i64 m, .int .i64 i], [] => Rq (a' = a ∧ m = a.length ∧ i = 0 ∧ oBnd a) (Br (a.all okA) (K (.exit 0) [.row .attr a, .any] []) (K .ret [.row .attr a, .int .i64 4] []))
    | _, _ => False
def lsWr1 : LS where
  keep := [(1, .as), (31, .as), (32, .as), (33, .as)]
  left := [(1, .as), (4, .as)]
  sum := fun vs bs K => match vs, bs with
    | [.row .attr a, .row .attr a', .int .i64 m, .int .i64 i], [] => Rq (a' = a ∧ m = a.length ∧ i = 0 ∧ oBnd a) (Br (twiceB a) (K .ret [.row .attr a, .int .i64 8] []) (K (.exit 2) [.row .attr a, .any] []))
    | _, _ => False
def lsWr2 : LS where
  keep := [(1, .as), (7, .as), (8, .as), (31, .as), (32, .as), (33, .as), (38, .as), (39, .as), (40, .as)]
  left := [(1, .as), (31, .as), (32, .as), (33, .as), (4, .as)]
  sum := fun vs bs K => match vs, bs with
    | [.row .attr a, .int .i64 i, .ptr 0 0, .row .attr a1, .int .i64 m, .int .i64 j, .row .attr a', .int .i64 n, .int .i64 k], [.box [.str x, .str y]] => Rq (a' = a ∧ n = a.length ∧ k = 0 ∧ 0 ≤ i ∧ i < a.length ∧ x = (rd Ty.attr a i).name ∧ oBnd a) (Br (twI a i) (K .ret [.row .attr a, .row .attr a1, .int .i64 m, .int .i64 j, .int .i64 8] []) (K (.exit 4) [.row .attr a, .row .attr a1, .int .i64 m, .int .i64 j, .any] []))
    | _, _ => False
def conWr6 : Con := conP [.str, .row .attr] fun (m : ByteArray) (a : List At) => { pre := some (oBnd a), res := .int .i64 (wrongE m a) }
end Go.Proofs.YtnhipiedjekkpaaGreatDoor.AX
end
section
namespace Go.Proofs.YtnhipiedjekkpaaGreatDoor.AX
open Go AXP
set_option maxRecDepth 100000
theorem vcIs2F (c : Int) (Q : List AV → List Blk → List Blk → Prop) : (funA cx0 (LL Tryz.f155 []) Tryz.f155 [.int .i64 c] [] [] Q) = (
Br (decide (c ≥ (0 : Int)))
 (Br (decide (c ≤ (1114111 : Int)))
 (Br (decide (c ≥ (55296 : Int))) (Q [AV.bool !decide (c ≤ (57343 : Int))] [] []) (Q [AV.bool true] [] []))
 (Q [AV.bool false] [] []))
 (Q [AV.bool false] [] [])) := by kernel_rfl
theorem vcBy2F (c : Int) (Q : List AV → List Blk → List Blk → Prop) : (funA cxBy2 (LL Tryz.f156 []) Tryz.f156 [.int .i64 c] [] [] Q) = (
Br (!isC c) False
 (Br (decide (c < (128 : Int)))
 (Rq ([IntKind.u8.wrap c].length ≤ maxSl) (Q [AV.str (strOf [IntKind.u8.wrap c])] [] []))
 (Br (decide (c < (2048 : Int)))
 (Rq ((64 : Int) ≠ (0 : Int))
 (Rq ((64 : Int) ≠ (0 : Int))
 (Rq
 ([IntKind.u8.wrap (IntKind.i64.wrap ((192 : Int) + IntKind.i64.wrap (c.tdiv (64 : Int)))),
 IntKind.u8.wrap (IntKind.i64.wrap ((128 : Int) + c.tmod (64 : Int)))].length ≤
 maxSl)
 (Q
 [AV.str
 (strOf
 [IntKind.u8.wrap (IntKind.i64.wrap ((192 : Int) + IntKind.i64.wrap (c.tdiv (64 : Int)))),
 IntKind.u8.wrap (IntKind.i64.wrap ((128 : Int) + c.tmod (64 : Int)))])]
 [] []))))
 (Br (decide (c < (65536 : Int)))
 (Rq ((4096 : Int) ≠ (0 : Int))
 (Rq ((64 : Int) ≠ (0 : Int))
 (Rq ((64 : Int) ≠ (0 : Int))
 (Rq ((64 : Int) ≠ (0 : Int))
 (Rq
 ([IntKind.u8.wrap (IntKind.i64.wrap ((224 : Int) + IntKind.i64.wrap (c.tdiv (4096 : Int)))),
 IntKind.u8.wrap
 (IntKind.i64.wrap ((128 : Int) + (IntKind.i64.wrap (c.tdiv (64 : Int))).tmod (64 : Int))),
 IntKind.u8.wrap (IntKind.i64.wrap ((128 : Int) + c.tmod (64 : Int)))].length ≤
 maxSl)
 (Q
 [AV.str
 (strOf
 [IntKind.u8.wrap (IntKind.i64.wrap ((224 : Int) + IntKind.i64.wrap (c.tdiv (4096 : Int)))),
 IntKind.u8.wrap
 (IntKind.i64.wrap ((128 : Int) + (IntKind.i64.wrap (c.tdiv (64 : Int))).tmod (64 : Int))),
 IntKind.u8.wrap (IntKind.i64.wrap ((128 : Int) + c.tmod (64 : Int)))])]
 [] []))))))
 (Rq ((262144 : Int) ≠ (0 : Int))
 (Rq ((4096 : Int) ≠ (0 : Int))
 (Rq ((64 : Int) ≠ (0 : Int))
 (Rq ((64 : Int) ≠ (0 : Int))
 (Rq ((64 : Int) ≠ (0 : Int))
 (Rq ((64 : Int) ≠ (0 : Int))
 (Rq
 ([IntKind.u8.wrap (IntKind.i64.wrap ((240 : Int) + IntKind.i64.wrap (c.tdiv (262144 : Int)))),
 IntKind.u8.wrap
 (IntKind.i64.wrap
 ((128 : Int) + (IntKind.i64.wrap (c.tdiv (4096 : Int))).tmod (64 : Int))),
 IntKind.u8.wrap
 (IntKind.i64.wrap ((128 : Int) + (IntKind.i64.wrap (c.tdiv (64 : Int))).tmod (64 : Int))),
 IntKind.u8.wrap (IntKind.i64.wrap ((128 : Int) + c.tmod (64 : Int)))].length ≤
 maxSl)
 (Q
 [AV.str
 (strOf
 [IntKind.u8.wrap
 (IntKind.i64.wrap ((240 : Int) + IntKind.i64.wrap (c.tdiv (262144 : Int)))),
 IntKind.u8.wrap
 (IntKind.i64.wrap
 ((128 : Int) + (IntKind.i64.wrap (c.tdiv (4096 : Int))).tmod (64 : Int))),
 IntKind.u8.wrap
 (IntKind.i64.wrap
 ((128 : Int) + (IntKind.i64.wrap (c.tdiv (64 : Int))).tmod (64 : Int))),
 IntKind.u8.wrap (IntKind.i64.wrap ((128 : Int) + c.tmod (64 : Int)))])]
 [] [])))))))))))) := by kernel_rfl
theorem vcLowF (s : ByteArray) (i : Int) (Q : List AV → List Blk → List Blk → Prop) : (funA cx0 (LL Tryz.f154 []) Tryz.f154 [.str s, .int .i64 i] [] [] Q) = (
Br (decide (i ≥ (↑s.size : Int))) (Gv (s.size ≤ maxSl) (Q [AV.int IntKind.i64 (-1 : Int)] [] []))
 (Rq ((0 : Int) ≤ i ∧ i < (↑s.size : Int))
 (Br (decide ((↑(s.get! i.toNat).toNat : Int) < (128 : Int)))
 (Gv (s.size ≤ maxSl) (Q [AV.int IntKind.i64 (-1 : Int)] [] []))
 (Rq ((0 : Int) ≤ i ∧ i < (↑s.size : Int))
 (Gv (s.size ≤ maxSl)
 (Br (decide ((↑(s.get! i.toNat).toNat : Int) > (191 : Int))) (Q [AV.int IntKind.i64 (-1 : Int)] [] [])
 (Rq ((0 : Int) ≤ i ∧ i < (↑s.size : Int))
 (Q
 [AV.int IntKind.i64 (IntKind.i64.wrap (IntKind.i64.wrap (↑(s.get! i.toNat).toNat : Int) - (128 : Int)))]
 [] [])))))))) := by kernel_rfl
theorem vcOf0 (s : ByteArray) (z r : Bool) (i : Int) (K : Ex → List AV → List Blk → Prop) : (bodyA cxOf (LL Tryz.f136 [lsOf]) Tryz.f136.ntmps (loopAt Tryz.f136 0).1 (loopAt Tryz.f136 0).2 lsOf.keep lsOf.left K [.str s, .ptr 0 0, .ptr 1 0, .int .i64 i] [.box [.nil, .bool z], .box [.nil, .bool r]]) = (
Gv (s.size ≤ maxSl)
 (Br (decide (i < (↑s.size : Int)))
 (Rq ((0 : Int) ≤ i ∧ i < (↑s.size : Int) ∧ s.size ≤ (1000000 : Nat))
 (Rq ([(gA s i).1].length * (8 : Nat) ≤ maxSl)
 (Br r
 (K Ex.norm
 [AV.str s, AV.ptr (0 : Nat) (0 : Nat), AV.ptr ((0 : Nat) + (1 : Nat)) (0 : Nat),
 AV.int IntKind.i64 (IntKind.i64.wrap (i + (gA s i).2.1))]
 [Blk.box [AV.nil, AV.bool z],
 Blk.box [AV.own ((0 : Nat) + (1 : Nat) + (1 : Nat)) (0 : Nat), AV.bool (gA s i).2.2],
 Blk.rowb (0 : Nat) Ty.int [(gA s i).1]])
 (K Ex.norm
 [AV.str s, AV.ptr (0 : Nat) (0 : Nat), AV.ptr ((0 : Nat) + (1 : Nat)) (0 : Nat),
 AV.int IntKind.i64 (IntKind.i64.wrap (i + (gA s i).2.1))]
 [Blk.box [AV.nil, AV.bool z], Blk.box [AV.own ((0 : Nat) + (1 : Nat) + (1 : Nat)) (0 : Nat), AV.bool false],
 Blk.rowb (0 : Nat) Ty.int [(gA s i).1]]))))
 (K (Ex.exit (0 : Nat)) [AV.ptr (0 : Nat) (0 : Nat), AV.ptr ((0 : Nat) + (1 : Nat)) (0 : Nat)]
 [Blk.box [AV.nil, AV.bool z], Blk.box [AV.nil, AV.bool r]]))) := by kernel_rfl
theorem vcOf1 (s : ByteArray) (z r : Bool) (i : Int) (l : List Int) (K : Ex → List AV → List Blk → Prop) : (bodyA cxOf (LL Tryz.f136 [lsOf]) Tryz.f136.ntmps (loopAt Tryz.f136 0).1 (loopAt Tryz.f136 0).2 lsOf.keep lsOf.left K [.str s, .ptr 0 0, .ptr 1 0, .int .i64 i] [.box [.nil, .bool z], .box [.own 2 0, .bool r], .rowb 0 .int l]) = (
Gv (s.size ≤ maxSl)
 (Br (decide (i < (↑s.size : Int)))
 (Rq ((0 : Int) ≤ i ∧ i < (↑s.size : Int) ∧ s.size ≤ (1000000 : Nat))
 (Rq ((l.length + [(gA s i).1].length) * (8 : Nat) ≤ maxSl)
 (Br r
 (K Ex.norm
 [AV.str s, AV.ptr (0 : Nat) (0 : Nat), AV.ptr ((0 : Nat) + (1 : Nat)) (0 : Nat),
 AV.int IntKind.i64 (IntKind.i64.wrap (i + (gA s i).2.1))]
 [Blk.box [AV.nil, AV.bool z],
 Blk.box [AV.own ((0 : Nat) + (1 : Nat) + (1 : Nat)) (0 : Nat), AV.bool (gA s i).2.2],
 Blk.rowb (0 : Nat) Ty.int (l ++ [(gA s i).1])])
 (K Ex.norm
 [AV.str s, AV.ptr (0 : Nat) (0 : Nat), AV.ptr ((0 : Nat) + (1 : Nat)) (0 : Nat),
 AV.int IntKind.i64 (IntKind.i64.wrap (i + (gA s i).2.1))]
 [Blk.box [AV.nil, AV.bool z], Blk.box [AV.own ((0 : Nat) + (1 : Nat) + (1 : Nat)) (0 : Nat), AV.bool false],
 Blk.rowb (0 : Nat) Ty.int (l ++ [(gA s i).1])]))))
 (K (Ex.exit (0 : Nat)) [AV.ptr (0 : Nat) (0 : Nat), AV.ptr ((0 : Nat) + (1 : Nat)) (0 : Nat)]
 [Blk.box [AV.nil, AV.bool z], Blk.box [AV.own ((0 : Nat) + (1 : Nat) + (1 : Nat)) (0 : Nat), AV.bool r],
 Blk.rowb (0 : Nat) Ty.int l]))) := by kernel_rfl
theorem vcOfF (s : ByteArray) (Q : List AV → List Blk → List Blk → Prop) : (funA cxOf (LL Tryz.f136 [lsOf]) Tryz.f136 [.str s] [] [.row .int, .as] Q) = (
Rq ((0 : Int) = (0 : Int) ∧ s.size ≤ (1000000 : Nat) ∧ true = true)
 (Br ((uFrom s (0 : Int)).1.length == (0 : Nat)) (Q [AV.agg [AV.row Ty.int [], AV.bool (uFrom s (0 : Int)).2]] [] [])
 (Q [AV.agg [AV.row Ty.int (uFrom s (0 : Int)).1, AV.bool (uFrom s (0 : Int)).2]] [] []))) := by kernel_rfl
theorem vcNm6B (s : ByteArray) (i : Int) (K : Ex → List AV → List Blk → Prop) : (bodyA cx0 (LL Tryz.f137 [lsNm6]) Tryz.f137.ntmps (loopAt Tryz.f137 0).1 (loopAt Tryz.f137 0).2 lsNm6.keep lsNm6.left K [.str s, .int .i64 i] []) = (
Gv (s.size ≤ maxSl)
 (Br (decide (i < (↑s.size : Int)))
 (Rq ((0 : Int) ≤ i ∧ i < (↑s.size : Int))
 (Br (decide ((↑(s.get! i.toNat).toNat : Int) ≥ (97 : Int)))
 (Rq ((0 : Int) ≤ i ∧ i < (↑s.size : Int))
 (Rq ((0 : Int) ≤ i ∧ i < (↑s.size : Int))
 (Br (decide ((↑(s.get! i.toNat).toNat : Int) ≥ (48 : Int)))
 (Rq ((0 : Int) ≤ i ∧ i < (↑s.size : Int))
 (Br (decide ((↑(s.get! i.toNat).toNat : Int) ≤ (58 : Int)))
 (Br (!decide ((↑(s.get! i.toNat).toNat : Int) ≤ (122 : Int)))
 (Br (i == (0 : Int)) (K Ex.ret [AV.str s, AV.bool false] [])
 (K Ex.norm [AV.str s, AV.int IntKind.i64 (IntKind.i64.wrap (i + (1 : Int)))] []))
 (K Ex.norm [AV.str s, AV.int IntKind.i64 (IntKind.i64.wrap (i + (1 : Int)))] []))
 (Rq ((0 : Int) ≤ i ∧ i < (↑s.size : Int))
 (Br (!decide ((↑(s.get! i.toNat).toNat : Int) ≤ (122 : Int)))
 (Br (i == (0 : Int)) (K Ex.ret [AV.str s, AV.bool false] [])
 (Br (!(↑(s.get! i.toNat).toNat : Int) == (45 : Int)) (K Ex.ret [AV.str s, AV.bool false] [])
 (K Ex.norm [AV.str s, AV.int IntKind.i64 (IntKind.i64.wrap (i + (1 : Int)))] [])))
 (K Ex.norm [AV.str s, AV.int IntKind.i64 (IntKind.i64.wrap (i + (1 : Int)))] [])))))
 (Rq ((0 : Int) ≤ i ∧ i < (↑s.size : Int))
 (Br (!decide ((↑(s.get! i.toNat).toNat : Int) ≤ (122 : Int)))
 (Br (i == (0 : Int)) (K Ex.ret [AV.str s, AV.bool false] [])
 (Br (!(↑(s.get! i.toNat).toNat : Int) == (45 : Int)) (K Ex.ret [AV.str s, AV.bool false] [])
 (K Ex.norm [AV.str s, AV.int IntKind.i64 (IntKind.i64.wrap (i + (1 : Int)))] [])))
 (K Ex.norm [AV.str s, AV.int IntKind.i64 (IntKind.i64.wrap (i + (1 : Int)))] []))))))
 (Rq ((0 : Int) ≤ i ∧ i < (↑s.size : Int))
 (Br (decide ((↑(s.get! i.toNat).toNat : Int) ≥ (48 : Int)))
 (Rq ((0 : Int) ≤ i ∧ i < (↑s.size : Int))
 (Br (decide ((↑(s.get! i.toNat).toNat : Int) ≤ (58 : Int)))
 (Br (i == (0 : Int)) (K Ex.ret [AV.str s, AV.bool false] [])
 (K Ex.norm [AV.str s, AV.int IntKind.i64 (IntKind.i64.wrap (i + (1 : Int)))] []))
 (Rq ((0 : Int) ≤ i ∧ i < (↑s.size : Int))
 (Br (i == (0 : Int)) (K Ex.ret [AV.str s, AV.bool false] [])
 (Br (!(↑(s.get! i.toNat).toNat : Int) == (45 : Int)) (K Ex.ret [AV.str s, AV.bool false] [])
 (K Ex.norm [AV.str s, AV.int IntKind.i64 (IntKind.i64.wrap (i + (1 : Int)))] []))))))
 (Rq ((0 : Int) ≤ i ∧ i < (↑s.size : Int))
 (Br (i == (0 : Int)) (K Ex.ret [AV.str s, AV.bool false] [])
 (Br (!(↑(s.get! i.toNat).toNat : Int) == (45 : Int)) (K Ex.ret [AV.str s, AV.bool false] [])
 (K Ex.norm [AV.str s, AV.int IntKind.i64 (IntKind.i64.wrap (i + (1 : Int)))] []))))))))
 (K (Ex.exit (0 : Nat)) [AV.str s, AV.any] []))) := by kernel_rfl
theorem vcNm6F (s : ByteArray) (Q : List AV → List Blk → List Blk → Prop) : (funA cx0 (LL Tryz.f137 [lsNm6]) Tryz.f137 [.str s] [] [] Q) = (
Rq ((0 : Int) = (0 : Int))
 (Br (nmR (0 : Nat) (kb s))
 (Br (decide ((↑s.size : Int) > (0 : Int)))
 (Gv (s.size ≤ maxSl) (Gv (s.size ≤ maxSl) (Q [AV.bool (decide ((↑s.size : Int) < (25 : Int)))] [] [])))
 (Gv (s.size ≤ maxSl) (Q [AV.bool false] [] [])))
 (Q [AV.bool false] [] []))) := by kernel_rfl
theorem vcGd6B (s : ByteArray) (i : Int) (K : Ex → List AV → List Blk → Prop) : (bodyA cxGd6 (LL Tryz.f123 [lsGd6]) Tryz.f123.ntmps (loopAt Tryz.f123 0).1 (loopAt Tryz.f123 0).2 lsGd6.keep lsGd6.left K [.str s, .int .i64 i] []) = (
Gv (s.size ≤ maxSl)
 (Br (decide (i < (↑s.size : Int)))
 (Rq ((0 : Int) ≤ i ∧ i < (↑s.size : Int))
 (Br ((↑(s.get! i.toNat).toNat : Int) == (0 : Int)) (K Ex.ret [AV.str s, AV.bool false] [])
 (Rq ((0 : Int) ≤ i ∧ i < (↑s.size : Int))
 (Br ((↑(s.get! i.toNat).toNat : Int) == (13 : Int)) (K Ex.ret [AV.str s, AV.bool false] [])
 (K Ex.norm [AV.str s, AV.int IntKind.i64 (IntKind.i64.wrap (i + (1 : Int)))] [])))))
 (K (Ex.exit (0 : Nat)) [AV.str s, AV.any] []))) := by kernel_rfl
theorem vcGd6F (s : ByteArray) (Q : List AV → List Blk → List Blk → Prop) : (funA cxGd6 (LL Tryz.f123 [lsGd6]) Tryz.f123 [.str s] [] [] Q) = (
Rq ((0 : Int) = (0 : Int))
 (Br (allP gd1 s) (Rq (s.size ≤ (1000000 : Nat)) (Q [AV.bool (uFrom s (0 : Int)).2] [] [])) (Q [AV.bool false] [] []))) := by kernel_rfl
theorem vcWr0 (a : List At) (m i : Int) (K : Ex → List AV → List Blk → Prop) : (bodyA cxWr6 (LL Tryz.f124 [lsWr0, lsWr1, lsWr2]) Tryz.f124.ntmps (loopAt Tryz.f124 0).1 (loopAt Tryz.f124 0).2 lsWr0.keep lsWr0.left K [.row .attr a, .row .attr a, .int .i64 m, .int .i64 i] []) = (
Br (decide (i < m))
 (Rq ((0 : Int) ≤ i ∧ i < (↑a.length : Int))
 (Br (!nameB (rd Ty.attr a i).1) (K Ex.ret [AV.row Ty.attr a, AV.int IntKind.i64 (4 : Int)] [])
 (Rq ((rd Ty.attr a i).2.size ≤ (1000000 : Nat))
 (Br (!goodB (rd Ty.attr a i).2) (K Ex.ret [AV.row Ty.attr a, AV.int IntKind.i64 (4 : Int)] [])
 (K Ex.norm
 [AV.row Ty.attr a, AV.row Ty.attr a, AV.int IntKind.i64 m,
 AV.int IntKind.i64 (IntKind.i64.wrap (i + (1 : Int)))]
 [])))))
 (K (Ex.exit (0 : Nat)) [AV.row Ty.attr a, AV.any] [])) := by kernel_rfl
theorem vcWr1 (a : List At) (m i : Int) (K : Ex → List AV → List Blk → Prop) : (bodyA cxWr6 (LL Tryz.f124 [lsWr0, lsWr1, lsWr2]) Tryz.f124.ntmps (loopAt Tryz.f124 1).1 (loopAt Tryz.f124 1).2 lsWr1.keep lsWr1.left K [.row .attr a, .row .attr a, .int .i64 m, .int .i64 i] []) = (
Br (decide (i < m))
 (Rq ((0 : Int) ≤ i ∧ i < (↑a.length : Int))
 (Gv (a.length ≤ maxSl)
 (Rq
 (a = a ∧
 (↑a.length : Int) = (↑a.length : Int) ∧
 (0 : Int) = (0 : Int) ∧
 (0 : Int) ≤ i ∧ i < (↑a.length : Int) ∧ (rd Ty.attr a i).1 = (rd Ty.attr a i).1 ∧ oBnd a)
 (Br (twI a i) (K Ex.ret [AV.row Ty.attr a, AV.int IntKind.i64 (8 : Int)] [])
 (K Ex.norm
 [AV.row Ty.attr a, AV.row Ty.attr a, AV.int IntKind.i64 m,
 AV.int IntKind.i64 (IntKind.i64.wrap (i + (1 : Int)))]
 [])))))
 (K (Ex.exit (2 : Nat)) [AV.row Ty.attr a, AV.any] [])) := by kernel_rfl
theorem vcWr2 (a a1 : List At) (x y : ByteArray) (i m j n k : Int) (K : Ex → List AV → List Blk → Prop) : (bodyA cxWr6 (LL Tryz.f124 [lsWr0, lsWr1, lsWr2]) Tryz.f124.ntmps (loopAt Tryz.f124 2).1 (loopAt Tryz.f124 2).2 lsWr2.keep lsWr2.left K [.row .attr a, .int .i64 i, .ptr 0 0, .row .attr a1, .int .i64 m, .int .i64 j, .row .attr a, .int .i64 n, .int .i64 k] [.box [.str x, .str y]]) = (
Br (decide (k < n))
 (Rq ((0 : Int) ≤ k ∧ k < (↑a.length : Int))
 (Br (decide (k < i))
 (Br (eqS x (rd Ty.attr a k).1)
 (K Ex.ret
 [AV.row Ty.attr a, AV.row Ty.attr a1, AV.int IntKind.i64 m, AV.int IntKind.i64 j,
 AV.int IntKind.i64 (8 : Int)]
 [])
 (K Ex.norm
 [AV.row Ty.attr a, AV.int IntKind.i64 i, AV.ptr (0 : Nat) (0 : Nat), AV.row Ty.attr a1, AV.int IntKind.i64 m,
 AV.int IntKind.i64 j, AV.row Ty.attr a, AV.int IntKind.i64 n,
 AV.int IntKind.i64 (IntKind.i64.wrap (k + (1 : Int)))]
 [Blk.box [AV.str x, AV.str y]]))
 (K Ex.norm
 [AV.row Ty.attr a, AV.int IntKind.i64 i, AV.ptr (0 : Nat) (0 : Nat), AV.row Ty.attr a1, AV.int IntKind.i64 m,
 AV.int IntKind.i64 j, AV.row Ty.attr a, AV.int IntKind.i64 n,
 AV.int IntKind.i64 (IntKind.i64.wrap (k + (1 : Int)))]
 [Blk.box [AV.str x, AV.str y]])))
 (K (Ex.exit (4 : Nat)) [AV.row Ty.attr a, AV.row Ty.attr a1, AV.int IntKind.i64 m, AV.int IntKind.i64 j, AV.any] [])) := by kernel_rfl
theorem vcWrF (m : ByteArray) (a : List At) (Q : List AV → List Blk → List Blk → Prop) : (funA cxWr6 (LL Tryz.f124 [lsWr0, lsWr1, lsWr2]) Tryz.f124 [.str m, .row .attr a] [] [] Q) = (
Br (!nameB m) (Q [AV.int IntKind.i64 (4 : Int)] [] [])
 (Gv (a.length ≤ maxSl)
 (Rq (a = a ∧ (↑a.length : Int) = (↑a.length : Int) ∧ (0 : Int) = (0 : Int) ∧ oBnd a)
 (Br (a.all okA)
 (Gv (a.length ≤ maxSl)
 (Rq (a = a ∧ (↑a.length : Int) = (↑a.length : Int) ∧ (0 : Int) = (0 : Int) ∧ oBnd a)
 (Br (twiceB a) (Q [AV.int IntKind.i64 (8 : Int)] [] [])
 (Gv (a.length ≤ maxSl)
 (Br (decide ((↑a.length : Int) > (12 : Int))) (Q [AV.int IntKind.i64 (2 : Int)] [] [])
 (Q [AV.int IntKind.i64 (0 : Int)] [] []))))))
 (Q [AV.int IntKind.i64 (4 : Int)] [] []))))) := by kernel_rfl
end Go.Proofs.YtnhipiedjekkpaaGreatDoor.AX
end
section
namespace Go.Proofs.YtnhipiedjekkpaaGreatDoor.AXP
open Go Go.Proofs.YtnhipiedjekkpaaGreatDoor.AX
theorem nm_iff {i : Nat} {b : Int} : (smI b || (i != 0 && mor b)) = true ↔ (97 ≤ b ∧ b ≤ 122) ∨ (i ≠ 0 ∧ ((48 ≤ b ∧ b ≤ 58) ∨ b = 45)) := by
  unfold smI mor
  simp only [Bool.or_eq_true, Bool.and_eq_true, decide_eq_true_eq, beq_iff_eq, bne_iff_ne, ne_eq]
theorem kb_drop {s : ByteArray} {i : Nat} (h : i < s.size) : (kb s).drop i = s.get! i :: (kb s).drop (i + 1) := by
  have hl : i < (kb s).length := by rw [kb_len]; exact h
  have e := kb_get h
  rw [List.getElem?_eq_getElem hl] at e
  injection e with e
  rw [List.drop_eq_getElem_cons hl, e]
theorem nmR_pos : ∀ (l : List UInt8) (i : Nat), 0 < i → nmR i l = l.all fun b => smallB b || (decide (48 ≤ b.toNat) && decide (b.toNat ≤ 57)) || b == 45 || b == 58
  | [], _, _ => rfl
  | b :: l, i, h => by
    rw [nmR, nmR_pos l (i + 1) (by omega), List.all_cons]
    congr 1
    have hi : (i != 0) = true := by simp; omega
    rw [hi, Bool.true_and]
    unfold smI mor smallB
    have h45 : ((b.toNat : Int) == 45) = (b == 45) := by
      rw [Bool.eq_iff_iff, beq_iff_eq, beq_iff_eq]
      exact ⟨fun e => UInt8.toNat_inj.1 (by have : b.toNat = 45 := by omega
                                            rw [this]; rfl), fun e => by rw [e]; rfl⟩
    have h58 : (b == 58) = decide (b.toNat = 58) := by
      rw [Bool.eq_iff_iff, beq_iff_eq, decide_eq_true_eq]
      exact ⟨fun e => by rw [e]; rfl, fun e => UInt8.toNat_inj.1 (by rw [e]; rfl)⟩
    rw [h45, h58]
    have e1 : decide (97 ≤ (b.toNat : Int)) = decide (97 ≤ b.toNat) := by congr 1; apply propext; omega
    have e2 : decide ((b.toNat : Int) ≤ 122) = decide (b.toNat ≤ 122) := by congr 1; apply propext; omega
    have e3 : (decide (48 ≤ (b.toNat : Int)) && decide ((b.toNat : Int) ≤ 58)) = ((decide (48 ≤ b.toNat) && decide (b.toNat ≤ 57)) || decide (b.toNat = 58)) := by
      rw [Bool.eq_iff_iff]
      simp only [Bool.and_eq_true, Bool.or_eq_true, decide_eq_true_eq]
      omega
    rw [e1, e2, e3]
    generalize (decide (97 ≤ b.toNat) && decide (b.toNat ≤ 122)) = p
    generalize (decide (48 ≤ b.toNat) && decide (b.toNat ≤ 57)) = q
    generalize decide (b.toNat = 58) = r
    generalize (b == 45) = t
    cases p <;> cases q <;> cases r <;> cases t <;> rfl
theorem nameB_nm (s : ByteArray) : nameB s = (nmR 0 (kb s) && decide (0 < s.size) && decide (s.size < 25)) := by
  unfold nameB
  rw [show decide (s.size ≤ 24) = decide (s.size < 25) by congr 1; apply propext; omega]
  cases hk : kb s with
  | nil =>
    have h0 : s.size = 0 := by rw [← kb_size, hk]; rfl
    rw [h0]; rfl
  | cons b l =>
    rw [nmR, nmR_pos l 1 (by decide), List.all_cons]
    have e1 : smI (b.toNat : Int) = smallB b := by
      unfold smI smallB
      rw [show decide (97 ≤ (b.toNat : Int)) = decide (97 ≤ b.toNat) by congr 1; apply propext; omega, show decide ((b.toNat : Int) ≤ 122) = decide (b.toNat ≤ 122) by congr 1; apply propext; omega]
    rw [e1]
    have e0 : (b :: l).getD 0 0 = b := rfl
    rw [e0]
    generalize (l.all fun b => smallB b || (decide (48 ≤ b.toNat) && decide (b.toNat ≤ 57)) || b == 45 || b == 58) = w
    generalize decide (0 < s.size) = p
    generalize decide (s.size < 25) = q
    cases smallB b <;> cases w <;> cases p <;> cases q <;> simp
theorem uFrom_end {s : ByteArray} {i : Nat} (h : s.size ≤ i) : uFrom s i = ([], true) := by
  unfold uFrom
  rw [Int.toNat_natCast, show s.size - i = 0 by omega]; rfl
theorem gA_n {s : ByteArray} {i : Nat} (h : i < s.size) : 1 ≤ (gA s i).2.1 ∧ i + (gA s i).2.1 ≤ s.size := by
  have hl : ((bl s).drop i).length = s.size - i := by rw [List.length_drop, bl_length]
  have := uDec_n (l := (bl s).drop i) (fun e => by rw [e] at hl; simp at hl; omega)
  rw [hl] at this
  unfold gA
  rw [Int.toNat_natCast]
  omega
theorem uFrom_step {s : ByteArray} {i : Nat} (h : i < s.size) : uFrom s i = ((gA s i).1 :: (uFrom s (i + (gA s i).2.1)).1, (gA s i).2.2 && (uFrom s (i + (gA s i).2.1)).2) := by
  have hn := gA_n h
  have hl : ((bl s).drop i).length = s.size - i := by rw [List.length_drop, bl_length]
  obtain ⟨f, hf⟩ : ∃ f, s.size - i = f + 1 := ⟨s.size - i - 1, by omega⟩
  have e0 : uFrom s i = uAll (f + 1) ((bl s).drop i) := by unfold uFrom; rw [Int.toNat_natCast, hf]
  have e1 : uFrom s (i + (gA s i).2.1) = uAll f (((bl s).drop i).drop (gA s i).2.1.toNat) := by
    unfold uFrom
    rw [show ((i : Int) + (gA s i).2.1).toNat = i + (gA s i).2.1.toNat by omega, List.drop_drop]
    exact uAll_fuel _ _ _ (by rw [List.length_drop, bl_length]; exact Nat.le_refl _) (by rw [List.length_drop, bl_length]; omega)
  rw [e0, e1, uAll, if_neg (fun e => by rw [e] at hl; simp at hl; omega)]
  unfold gA
  rw [Int.toNat_natCast]
end Go.Proofs.YtnhipiedjekkpaaGreatDoor.AXP
namespace Go.Proofs.YtnhipiedjekkpaaGreatDoor.AX
open Go AXP
set_option maxRecDepth 100000
theorem is2_holds : Holds 155 conIs2 := conP_holds fun c => by
  rcases (show ∃ w : Int, w = c from ⟨_, rfl⟩) with ⟨c, rfl⟩
  refine fun_meets0 tok0 [] (by kernel_rfl) (by kernel_rfl) fun _ => Eq.mpr (vcIs2F c _) ?_
  have e : ∀ b, isC c = b → [AV.bool b] = compsOf (.bool (isC c)) := fun b h => by rw [h]; rfl
  have hd : isC c = (decide (c ≥ 0) && decide (c ≤ 1114111) && !(decide (c ≥ 55296) && decide (c ≤ 57343))) := rfl
  refine ⟨fun h1 => ⟨fun h2 => ⟨fun h3 => qfin rfl (e _ ?_) rfl rfl, fun h3 => qfin rfl (e _ ?_) rfl rfl⟩, fun h2 => qfin rfl (e _ ?_) rfl rfl⟩, fun h1 => qfin rfl (e _ ?_) rfl rfl⟩
  · rw [hd, h1, h2, h3]; rfl
  · rw [hd, h1, h2, h3]; rfl
  · rw [hd, h1, h2]; rfl
  · rw [hd, h1]; rfl
theorem by2_holds : Holds 156 conBy2 := conP_holds fun c => by
  rcases (show ∃ w : Int, w = c from ⟨_, rfl⟩) with ⟨c, rfl⟩
  refine fun_meets0 (AllH.tok (.cons is2_holds (by kernel_rfl) .nil)) [] (by kernel_rfl) (by kernel_rfl) fun hpre => Eq.mpr (vcBy2F c _) ?_
  have hc : isC c = true := hpre _ rfl
  obtain ⟨c0, c1, _⟩ := isC_iff.1 hc
  have t64 : c.tdiv 64 = c / 64 := Int.tdiv_eq_ediv_of_nonneg c0
  have t4 : c.tdiv 4096 = c / 4096 := Int.tdiv_eq_ediv_of_nonneg c0
  have t26 : c.tdiv 262144 = c / 262144 := Int.tdiv_eq_ediv_of_nonneg c0
  have m64 : c.tmod 64 = c % 64 := Int.tmod_eq_emod_of_nonneg c0
  have w : ∀ x : Int, 0 ≤ x → x ≤ 2000000 → IntKind.i64.wrap x = x := fun x h0 h1 => wrap_id' (by omega) (by omega)
  have u : ∀ x : Int, 0 ≤ x → x < 256 → IntKind.u8.wrap x = x := fun x h0 h1 => by rw [IntKind.wrap_u8]; omega
  have n64 : (c / 64).tmod 64 = c / 64 % 64 := Int.tmod_eq_emod_of_nonneg (by omega)
  have n4 : (c / 4096).tmod 64 = c / 4096 % 64 := Int.tmod_eq_emod_of_nonneg (by omega)
  rw [t64, t4, t26, m64, w (c / 64) (by omega) (by omega), w (c / 4096) (by omega) (by omega), w (c / 262144) (by omega) (by omega), n64, n4]
  have r1 := Int.emod_nonneg c (show (64 : Int) ≠ 0 by decide)
  have r2 := Int.emod_lt_of_pos c (show (0 : Int) < 64 by decide)
  have r3 := Int.emod_nonneg (c / 64) (show (64 : Int) ≠ 0 by decide)
  have r4 := Int.emod_lt_of_pos (c / 64) (show (0 : Int) < 64 by decide)
  have r5 := Int.emod_nonneg (c / 4096) (show (64 : Int) ≠ 0 by decide)
  have r6 := Int.emod_lt_of_pos (c / 4096) (show (0 : Int) < 64 by decide)
  refine ⟨fun h => (by rw [hc] at h; cases h), fun _ => ⟨fun h1 => Rq.mk (show 1 ≤ maxSl by decide) (qfin rfl ?_ rfl rfl), fun h1 => ⟨fun h2 => Rq.mk (by decide) (Rq.mk (by decide) (Rq.mk (show 2 ≤ maxSl by decide) (qfin rfl ?_ rfl rfl))), fun h2 => ⟨fun h3 => Rq.mk (by decide) (Rq.mk (by decide) (Rq.mk (by decide) (Rq.mk (by decide) (Rq.mk (show 3 ≤ maxSl by decide) (qfin rfl ?_ rfl rfl))))), fun h3 => Rq.mk (by decide) (Rq.mk (by decide) (Rq.mk (by decide) (Rq.mk (by decide) (Rq.mk (by decide) (Rq.mk (by decide) (Rq.mk (show 4 ≤ maxSl by decide) (qfin rfl ?_ rfl rfl)))))))⟩⟩⟩⟩
  all_goals show _ = [AV.str (encS c)]
  all_goals unfold encS encB
  · have h1 := of_decide_eq_true h1
    rw [if_pos h1, u c (by omega) (by omega)]; rfl
  · have h1 := of_decide_eq_false h1
    have h2 := of_decide_eq_true h2
    rw [if_neg h1, if_pos h2, w (192 + c / 64) (by omega) (by omega), w (128 + c % 64) (by omega) (by omega), u (192 + c / 64) (by omega) (by omega), u (128 + c % 64) (by omega) (by omega)]; rfl
  · have h1 := of_decide_eq_false h1
    have h2 := of_decide_eq_false h2
    have h3 := of_decide_eq_true h3
    rw [if_neg h1, if_neg h2, if_pos h3, w (224 + c / 4096) (by omega) (by omega), w (128 + c % 64) (by omega) (by omega), w (128 + c / 64 % 64) (by omega) (by omega), u (224 + c / 4096) (by omega) (by omega), u (128 + c % 64) (by omega) (by omega), u (128 + c / 64 % 64) (by omega) (by omega)]; rfl
  · have h1 := of_decide_eq_false h1
    have h2 := of_decide_eq_false h2
    have h3 := of_decide_eq_false h3
    rw [if_neg h1, if_neg h2, if_neg h3, w (240 + c / 262144) (by omega) (by omega), w (128 + c % 64) (by omega) (by omega), w (128 + c / 64 % 64) (by omega) (by omega), w (128 + c / 4096 % 64) (by omega) (by omega), u (240 + c / 262144) (by omega) (by omega), u (128 + c % 64) (by omega) (by omega), u (128 + c / 64 % 64) (by omega) (by omega), u (128 + c / 4096 % 64) (by omega) (by omega)]; rfl
theorem low_holds : Holds 154 conLow := conP_holds fun s i => by
  rcases (show ∃ w : ByteArray, w = s from ⟨_, rfl⟩) with ⟨s, rfl⟩
  rcases (show ∃ w : Int, w = i from ⟨_, rfl⟩) with ⟨i, rfl⟩
  refine fun_meets0 tok0 [] (by kernel_rfl) (by kernel_rfl) fun hpre => Eq.mpr (vcLowF s i _) ?_
  have h0 : 0 ≤ i := hpre _ rfl
  obtain ⟨i, rfl⟩ := Int.eq_ofNat_of_zero_le h0
  have no : ct ((bl s).getD i (-1)) = false → [AV.int .i64 (-1)] = compsOf (.int .i64 (lowB s i)) := fun h => by
    show _ = [AV.int .i64 (lowB s i)]
    unfold lowB; rw [Int.toNat_natCast, if_neg (by rw [h]; decide)]
  refine ⟨fun h => ⟨fun _ => qfin rfl (no ?_) rfl rfl⟩, fun h => ?_⟩
  · have := of_decide_eq_true h
    rw [bl_no (by omega)]; rfl
  have h : i < s.size := by have := of_decide_eq_false h; omega
  rw [bl_at h] at no
  have hb : (s.get! i).toNat < 256 := UInt8.toNat_lt _
  rw [Int.toNat_natCast]
  refine Rq.mk ⟨by omega, by omega⟩ ⟨fun h1 => ⟨fun _ => qfin rfl (no ?_) rfl rfl⟩, fun h1 => Rq.mk ⟨by omega, by omega⟩ ⟨fun _ => ⟨fun h2 => qfin rfl (no ?_) rfl rfl, fun h2 => Rq.mk ⟨by omega, by omega⟩ (qfin rfl ?_ rfl rfl)⟩⟩⟩
  · have h1 := of_decide_eq_true h1
    rw [Bool.eq_false_iff]; intro q; have := ct_iff.1 q; omega
  · have h2 := of_decide_eq_true h2
    rw [Bool.eq_false_iff]; intro q; have := ct_iff.1 q; omega
  · have h1 := of_decide_eq_false h1
    have h2 := of_decide_eq_false h2
    show _ = [AV.int .i64 (lowB s i)]
    unfold lowB
    rw [Int.toNat_natCast, bl_at h, if_pos (ct_iff.2 (by omega)), wrap_id' (i := ((s.get! i).toNat : Int)) (by omega) (by omega), wrap_id' (by omega) (by omega)]
def blOf (z r : Bool) : List Int → List Blk
  | [] => [.box [.nil, .bool z], .box [.nil, .bool r]]
  | x :: l => [.box [.nil, .bool z], .box [.own 2 0, .bool r], .rowb 0 .int (x :: l)]
theorem of_sum : SumOK cxOf (LL Tryz.f136 [lsOf]) Tryz.f136.ntmps (loopAt Tryz.f136 0).1 (loopAt Tryz.f136 0).2 lsOf := by
  intro vs bs K hs
  unfold lsOf at hs
  simp only at hs
  split at hs
  case h_2 => exact hs.elim
  rename_i s i z r
  obtain ⟨⟨rfl, hsz, rfl⟩, h⟩ := hs
  refine sum_rec (σ := Nat × Bool × List Int) (fun q => [.str s, .ptr 0 0, .ptr 1 0, .int .i64 (q.1 : Nat)]) (fun q => blOf z q.2.1 q.2.2) (fun q => q.1 ≤ s.size ∧ q.2.2 ++ (uFrom s q.1).1 = (uFrom s 0).1 ∧ (q.2.1 && (uFrom s q.1).2) = (uFrom s 0).2 ∧ q.2.2.length ≤ q.1) (fun q => s.size - q.1) ?_ (0, true, []) ⟨Nat.zero_le _, rfl, rfl, Nat.le_refl _⟩
  rintro ⟨i, r, acc⟩ ⟨h1, h2, h3, h4⟩ R hR
  dsimp only at h1 h2 h3 h4 hR ⊢
  have hmx : maxSl = 140737488355328 := rfl
  have fin : s.size ≤ i → K (.exit 0) [.ptr 0 0, .ptr 1 0] (blOf z r acc) := fun q => by
    rw [uFrom_end q, List.append_nil] at h2
    rw [uFrom_end q, Bool.and_true] at h3
    rw [← h2, ← h3] at h
    cases acc with
    | nil => exact h.yes rfl
    | cons x l => exact h.no rfl
  have next : ∀ hi : i < s.size, ∀ b, b = (r && (gA s i).2.2) → R [.str s, .ptr 0 0, .ptr 1 0, .int .i64 (IntKind.i64.wrap ((i : Int) + (gA s i).2.1))] (blOf z b (acc ++ [(gA s i).1])) := fun hi b hb => by
    have hn := gA_n hi
    have st := uFrom_step hi
    have ew : IntKind.i64.wrap ((i : Int) + (gA s i).2.1) = ((i + (gA s i).2.1.toNat : Nat) : Int) := by rw [wrap_id'] <;> omega
    have e2 : ((i : Int) + (gA s i).2.1) = ((i + (gA s i).2.1.toNat : Nat) : Int) := by omega
    rw [e2] at st
    rw [ew]
    rw [st] at h2 h3
    refine hR (i + (gA s i).2.1.toNat, b, acc ++ [(gA s i).1]) ⟨by dsimp only; omega, ?_, ?_, ?_⟩ (by dsimp only; omega)
    · dsimp only; rw [List.append_assoc]; exact h2
    · dsimp only; rw [hb, Bool.and_assoc]; exact h3
    · dsimp only; rw [List.length_append]; simp only [List.length_cons, List.length_nil]; omega
  cases acc with
  | nil =>
    refine Eq.mpr (vcOf0 s z r i _) ⟨fun _ => ⟨fun q => ?_, fun q => fin (by have := of_decide_eq_false q; omega)⟩⟩
    have hi : i < s.size := by have := of_decide_eq_true q; omega
    refine Rq.mk ⟨by omega, by omega, hsz⟩ (Rq.mk (show 1 * 8 ≤ maxSl by decide) ⟨fun q2 => ?_, fun q2 => ?_⟩)
    · subst q2; exact next hi _ (by simp)
    · subst q2; exact next hi _ (by simp)
  | cons x l =>
    refine Eq.mpr (vcOf1 s z r i (x :: l) _) ⟨fun _ => ⟨fun q => ?_, fun q => fin (by have := of_decide_eq_false q; omega)⟩⟩
    have hi : i < s.size := by have := of_decide_eq_true q; omega
    refine Rq.mk ⟨by omega, by omega, hsz⟩ (Rq.mk ?_ ⟨fun q2 => ?_, fun q2 => ?_⟩)
    · simp only [List.length_cons, List.length_nil] at h4 ⊢; omega
    · subst q2; exact next hi _ (by simp)
    · subst q2; exact next hi _ (by simp)
theorem of_of (hA : Holds 146 conAt2) : Holds 136 conOf := conP_holds fun s => by
  rcases (show ∃ w : ByteArray, w = s from ⟨_, rfl⟩) with ⟨s, rfl⟩
  refine fun_meets1 (AllH.tok (.cons hA (by kernel_rfl) .nil)) [.row .int, .as] lsOf (by kernel_rfl) (by kernel_rfl) of_sum fun hpre => Eq.mpr (vcOfF s _) ?_
  have hs : s.size ≤ 1000000 := hpre _ rfl
  refine Rq.mk ⟨rfl, hs, rfl⟩ ⟨fun h => qfin rfl ?_ rfl rfl, fun h => qfin rfl rfl rfl rfl⟩
  have h := List.eq_nil_of_length_eq_zero (of_decide_eq_true h)
  show _ = [AV.agg [AV.row Ty.int (uFrom s 0).1, AV.bool (uFrom s 0).2]]
  rw [h]
theorem nm6_sum : SumOK cx0 (LL Tryz.f137 [lsNm6]) Tryz.f137.ntmps (loopAt Tryz.f137 0).1 (loopAt Tryz.f137 0).2 lsNm6 := by
  intro vs bs K hs
  unfold lsNm6 at hs
  simp only at hs
  split at hs
  case h_2 => exact hs.elim
  rename_i s i
  obtain ⟨rfl, h⟩ := hs
  refine sum_rec (σ := Nat) (fun i => [.str s, .int .i64 (i : Nat)]) (fun _ => []) (fun i => i ≤ s.size ∧ nmR i ((kb s).drop i) = nmR 0 (kb s)) (fun i => s.size - i) ?_ 0 ⟨Nat.zero_le _, rfl⟩
  rintro i ⟨hi, he⟩ R hR
  refine Eq.mpr (vcNm6B s i _) ⟨fun hm => ⟨fun q => ?_, fun q => ?_⟩⟩
  · have hlt : i < s.size := by have := of_decide_eq_true q; omega
    rw [kb_drop hlt, nmR] at he
    rw [Int.toNat_natCast, wrap_succ hlt hm]
    generalize hb : ((s.get! i).toNat : Int) = b at he ⊢
    have ret : ¬ ((97 ≤ b ∧ b ≤ 122) ∨ (i ≠ 0 ∧ ((48 ≤ b ∧ b ≤ 58) ∨ b = 45))) → K .ret [.str s, .bool false] [] := fun g => by
      have : (smI b || (i != 0 && mor b)) = false := Bool.eq_false_iff.2 fun q => g (nm_iff.1 q)
      rw [this, Bool.false_and] at he
      exact h.no he.symm
    have nxt : ((97 ≤ b ∧ b ≤ 122) ∨ (i ≠ 0 ∧ ((48 ≤ b ∧ b ≤ 58) ∨ b = 45))) → R [.str s, .int .i64 ((i + 1 : Nat) : Int)] [] := fun g => by
      rw [nm_iff.2 g, Bool.true_and] at he
      exact hR (i + 1) ⟨hlt, he⟩ (by omega)
    clear he hR h
    repeat' (first | refine Rq.mk ⟨by omega, by omega⟩ ?_ | refine Br.mk (fun _ => ?_) (fun _ => ?_) | fail)
    all_goals first
      | exact ret (by simp only [decide_eq_true_eq, decide_eq_false_iff_not, Bool.not_eq_true', Bool.not_eq_false', beq_iff_eq, beq_eq_false_iff_ne, ne_eq] at *; omega)
      | exact nxt (by simp only [decide_eq_true_eq, decide_eq_false_iff_not, Bool.not_eq_true', Bool.not_eq_false', beq_iff_eq, beq_eq_false_iff_ne, ne_eq] at *; omega)
  · have : i = s.size := by have := of_decide_eq_false q; omega
    subst this
    rw [List.drop_of_length_le (by rw [kb_size]; exact Nat.le_refl _)] at he
    exact h.yes he.symm
theorem nm6_holds : Holds 137 conNameP := conP_holds fun s => by
  rcases (show ∃ w : ByteArray, w = s from ⟨_, rfl⟩) with ⟨s, rfl⟩
  refine fun_meets1 tok0 [] lsNm6 (by kernel_rfl) (by kernel_rfl) nm6_sum fun _ => Eq.mpr (vcNm6F s _) ?_
  have e : ∀ b, nameB s = b → [AV.bool b] = compsOf (.bool (nameB s)) := fun b h => by rw [h]; rfl
  have hd := nameB_nm s
  refine Rq.mk rfl ⟨fun h => ⟨fun h1 => ⟨fun _ => ⟨fun _ => qfin rfl (e _ ?_) rfl rfl⟩⟩, fun h1 => ⟨fun _ => qfin rfl (e _ ?_) rfl rfl⟩⟩, fun h => qfin rfl (e _ ?_) rfl rfl⟩
  · have h1 : 0 < s.size := by have := of_decide_eq_true h1; omega
    rw [hd, h, decide_eq_true h1, Bool.true_and, Bool.true_and]
    rw [Bool.eq_iff_iff, decide_eq_true_eq, decide_eq_true_eq]; omega
  · have h1 : ¬ 0 < s.size := by have := of_decide_eq_false h1; omega
    rw [hd, decide_eq_false h1, Bool.and_false, Bool.false_and]
  · rw [hd, h, Bool.false_and, Bool.false_and]
theorem gd6_sum : SumOK cxGd6 (LL Tryz.f123 [lsGd6]) Tryz.f123.ntmps (loopAt Tryz.f123 0).1 (loopAt Tryz.f123 0).2 lsGd6 := by
  intro vs bs K hs
  unfold lsGd6 at hs
  simp only at hs
  split at hs
  case h_2 => exact hs.elim
  rename_i s i
  obtain ⟨rfl, h⟩ := hs
  refine sum_rec (σ := Nat) (fun i => [.str s, .int .i64 (i : Nat)]) (fun _ => []) (fun i => i ≤ s.size ∧ ((kb s).take i).all (fun b => gd1 (b.toNat : Int)) = true) (fun i => s.size - i) ?_ 0 ⟨Nat.zero_le _, rfl⟩
  rintro i ⟨hi, ha⟩ R hR
  refine Eq.mpr (vcGd6B s i _) ⟨fun hm => ⟨fun q => ?_, fun q => ?_⟩⟩
  · have hlt : i < s.size := by have := of_decide_eq_true q; omega
    rw [Int.toNat_natCast, wrap_succ hlt hm]
    refine Rq.mk ⟨by omega, by omega⟩ ⟨fun h1 => h.no (allP_no hlt ?_), fun h1 => Rq.mk ⟨by omega, by omega⟩ ⟨fun h2 => h.no (allP_no hlt ?_), fun h2 => hR (i + 1) ⟨hlt, ?_⟩ (by omega)⟩⟩
    · have h1 : ((s.get! i).toNat : Int) = 0 := by simpa using h1
      unfold gd1; rw [h1]; rfl
    · have h2 : ((s.get! i).toNat : Int) = 13 := by simpa using h2
      unfold gd1; rw [h2]; rfl
    · have e : gd1 ((s.get! i).toNat : Int) = true := by unfold gd1 bne; rw [h1, h2]; rfl
      rw [allP_take hlt, ha, e]; rfl
  · have : i = s.size := by have := of_decide_eq_false q; omega
    subst this
    rw [List.take_of_length_le (by rw [kb_len]; exact Nat.le_refl _)] at ha
    exact h.yes ha
theorem gd6_of (hO : Holds 136 conOf) : Holds 123 conGd6 := conP_holds fun s => by
  rcases (show ∃ w : ByteArray, w = s from ⟨_, rfl⟩) with ⟨s, rfl⟩
  refine fun_meets1 (AllH.tok (.cons hO (by kernel_rfl) .nil)) [] lsGd6 (by kernel_rfl) (by kernel_rfl) gd6_sum fun hpre => Eq.mpr (vcGd6F s _) ?_
  have hs : s.size ≤ 1000000 := hpre _ rfl
  have hd : goodB s = (rightU s && allP gd1 s) := by unfold goodB; rw [allP_gd]
  have e : ∀ b, goodB s = b → [AV.bool b] = compsOf (.bool (goodB s)) := fun b h => by rw [h]; rfl
  refine Rq.mk rfl ⟨fun h => Rq.mk hs (qfin rfl (e _ ?_) rfl rfl), fun h => qfin rfl (e _ ?_) rfl rfl⟩
  · rw [hd, h, Bool.and_true]; rfl
  · rw [hd, h, Bool.and_false]
theorem wr0_sum : SumOK cxWr6 (LL Tryz.f124 [lsWr0, lsWr1, lsWr2]) Tryz.f124.ntmps (loopAt Tryz.f124 0).1 (loopAt Tryz.f124 0).2 lsWr0 := by
  intro vs bs K hs
  unfold lsWr0 at hs
  simp only at hs
  split at hs
  case h_2 => exact hs.elim
  rename_i a a' m i
  rcases (show ∃ w : List At, w = a from ⟨_, rfl⟩) with ⟨a, rfl⟩
  obtain ⟨⟨ea, rfl, rfl, hl, hv⟩, h⟩ := hs
  have ea : a = a' := ea.symm
  subst ea
  have hm : a.length ≤ maxSl := by unfold maxSl; omega
  refine sum_rec (σ := Nat) (fun i => [.row .attr a, .row .attr a, .int .i64 a.length, .int .i64 (i : Nat)]) (fun _ => []) (fun i => i ≤ a.length ∧ (a.take i).all okA = true) (fun i => a.length - i) ?_ 0 ⟨Nat.zero_le _, rfl⟩
  rintro i ⟨hi, hall⟩ R hR
  refine Eq.mpr (vcWr0 a a.length i _) ⟨fun h1 => ?_, fun h1 => ?_⟩
  · have hlt : i < a.length := by have := of_decide_eq_true h1; omega
    rw [rd_atA hlt]
    have bad : okA a[i] = false → K .ret [.row .attr a, .int .i64 4] [] := fun hb => h.no (List.all_eq_false.2 ⟨_, List.getElem_mem hlt, by rw [hb]; decide⟩)
    refine Rq.mk ⟨by omega, by omega⟩ ⟨fun h2 => bad ?_, fun h2 => Rq.mk (hv _ (List.getElem_mem hlt)) ⟨fun h3 => bad ?_, fun h3 => ?_⟩⟩
    · have h2 : nameB a[i].name = false := by simpa using h2
      unfold okA; rw [h2]; rfl
    · have h3 : goodB a[i].value = false := by simpa using h3
      unfold okA; rw [h3, Bool.and_false]
    · have h2 : nameB a[i].name = true := by simpa using h2
      have h3 : goodB a[i].value = true := by simpa using h3
      rw [wrap_succ hlt hm]
      exact hR (i + 1) ⟨hlt, by rw [← take_snoc hlt, List.all_append, hall, List.all_cons, okA_iff.2 ⟨h2, h3⟩]; rfl⟩ (by omega)
  · have : i = a.length := by have := of_decide_eq_false h1; omega
    subst this
    rw [List.take_length] at hall
    exact h.yes hall
theorem wr1_sum : SumOK cxWr6 (LL Tryz.f124 [lsWr0, lsWr1, lsWr2]) Tryz.f124.ntmps (loopAt Tryz.f124 1).1 (loopAt Tryz.f124 1).2 lsWr1 := by
  intro vs bs K hs
  unfold lsWr1 at hs
  simp only at hs
  split at hs
  case h_2 => exact hs.elim
  rename_i a a' m i
  rcases (show ∃ w : List At, w = a from ⟨_, rfl⟩) with ⟨a, rfl⟩
  obtain ⟨⟨ea, rfl, rfl, hb⟩, h⟩ := hs
  have ea : a = a' := ea.symm
  subst ea
  have hl := hb.1
  have hm : a.length ≤ maxSl := by unfold maxSl; omega
  refine sum_rec (σ := Nat) (fun i => [.row .attr a, .row .attr a, .int .i64 a.length, .int .i64 (i : Nat)]) (fun _ => []) (fun i => i ≤ a.length ∧ twiceB (a.take i) = false) (fun i => a.length - i) ?_ 0 ⟨Nat.zero_le _, rfl⟩
  rintro i ⟨hi, ht⟩ R hR
  refine Eq.mpr (vcWr1 a a.length i _) ⟨fun h1 => ?_, fun h1 => ?_⟩
  · have hlt : i < a.length := by have := of_decide_eq_true h1; omega
    have e := twI_eq hlt
    rw [ht, Bool.false_or] at e
    refine Rq.mk ⟨by omega, by omega⟩ ⟨fun _ => Rq.mk ⟨rfl, rfl, rfl, by omega, by omega, rfl, hb⟩ ⟨fun h2 => h.yes ?_, fun h2 => ?_⟩⟩
    · rw [h2] at e
      have := twice_app _ (a.drop (i + 1)) e
      rwa [List.take_append_drop] at this
    · rw [wrap_succ hlt hm]
      exact hR (i + 1) ⟨hlt, by rw [e, h2]⟩ (by omega)
  · have : i = a.length := by have := of_decide_eq_false h1; omega
    subst this
    rw [List.take_length] at ht
    exact h.no ht
theorem wr2_sum : SumOK cxWr6 (LL Tryz.f124 [lsWr0, lsWr1, lsWr2]) Tryz.f124.ntmps (loopAt Tryz.f124 2).1 (loopAt Tryz.f124 2).2 lsWr2 := by
  intro vs bs K hs
  unfold lsWr2 at hs
  simp only at hs
  split at hs
  case h_2 => exact hs.elim
  rename_i a i a1 m j a' n k x y
  rcases (show ∃ w : List At, w = a from ⟨_, rfl⟩) with ⟨a, rfl⟩
  obtain ⟨⟨ea, rfl, rfl, h0, hi, hx, hb⟩, h⟩ := hs
  have ea : a = a' := ea.symm
  subst ea
  subst hx
  have hl := hb.1
  have hm : a.length ≤ maxSl := by unfold maxSl; omega
  obtain ⟨i, rfl⟩ := Int.eq_ofNat_of_zero_le h0
  refine sum_rec (σ := Nat) (fun k => [.row .attr a, .int .i64 i, .ptr 0 0, .row .attr a1, .int .i64 m, .int .i64 j, .row .attr a, .int .i64 a.length, .int .i64 (k : Nat)]) (fun _ => [.box [.str (rd Ty.attr a i).name, .str y]]) (fun k => k ≤ a.length ∧ (((a.take i).take k).any fun b => eqS (rd Ty.attr a i).name b.name) = false) (fun k => a.length - k) ?_ 0 ⟨Nat.zero_le _, rfl⟩
  rintro k ⟨hk, ht⟩ R hR
  refine Eq.mpr (vcWr2 a a1 _ y i m j a.length k _) ⟨fun h1 => ?_, fun h1 => ?_⟩
  · have hlt : k < a.length := by have := of_decide_eq_true h1; omega
    rw [wrap_succ hlt hm]
    refine Rq.mk ⟨by omega, by omega⟩ ⟨fun h2 => ?_, fun h2 => hR (k + 1) ⟨hlt, ?_⟩ (by omega)⟩
    · have hki : k < i := by have := of_decide_eq_true h2; omega
      have hkl : k < (a.take i).length := by rw [List.length_take]; omega
      have e : (((a.take i).take (k + 1)).any fun b => eqS (rd Ty.attr a i).name b.name) = eqS (rd Ty.attr a i).name (rd Ty.attr a k).name := by
        rw [← take_snoc hkl, List.any_append, ht, Bool.false_or, List.any_cons, List.any_nil, Bool.or_false, rd_atA hlt, List.getElem_take]
      refine ⟨fun h3 => h.yes ?_, fun h3 => hR (k + 1) ⟨hlt, e.trans h3⟩ (by omega)⟩
      have h3 : eqS (rd Ty.attr a i).name (rd Ty.attr a k).name = true := h3
      unfold twI
      rw [Int.toNat_natCast, List.any_eq_true]
      rw [h3, List.any_eq_true] at e
      obtain ⟨z, hz, q⟩ := e
      exact ⟨z, List.mem_of_mem_take hz, q⟩
    · have hki : i ≤ k := by have := of_decide_eq_false h2; omega
      rw [List.take_of_length_le (by rw [List.length_take]; omega)] at ht ⊢
      exact ht
  · have hge : a.length ≤ k := by have := of_decide_eq_false h1; omega
    rw [List.take_of_length_le (by rw [List.length_take]; omega)] at ht
    exact h.no (by unfold twI; rw [Int.toNat_natCast]; exact ht)
end Go.Proofs.YtnhipiedjekkpaaGreatDoor.AX
end
