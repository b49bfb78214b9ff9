/- EditOwn: for every input that the given row admits (finite slices) the law returns true and the input reads behind the call as it read before. -/
import Derived.Test.YtmkjjopflncedaaRows
import Derived.Test.YtmkjjopflncedaaMO6
import Derived.WalkKit
import Derived.ProofKit
import Derived.OpenShut
import Derived.ChangeOld
import Derived.Below
import Derived.Carry
import Derived.SizedLaws
import Derived.JoinedOf
import Derived.Handed
namespace Go.Proofs.Ytmkjjopflncedaa.editOwn
open Go.ChangeShapes Go.WideShapes Go.ChangeAt Go.RowKit Go.Proofs.Ytmkjjopflncedaa.AX
set_option linter.unusedVariables false
theorem own : ownKnob Try.prog.godebug = none := by kernel_rfl
theorem laidOut : laidOutB Try.prog = true := by kernel_rfl
set_option maxRecDepth 100000 in
theorem lifted (os : Os) (started : os.Started) (H : Type) (enc : TypeId × Value → H) :
    ReturnsInHanded {} Try.checked os 12 .any (Rows.editOwnSpec.pre6 enc Try.prog Try.f12 Rows.editOwnRow.domain false) (Rows.editOwnSpec.post enc Try.prog Try.f12 false true false false) := by
  refine returnsInHanded_of_change_sized (C := Try.checked) own started (by kernel_rfl) Try.func12
    (ChangeSpec.witness6 (enc := enc) (C := Try.checked) false ⟨#[], #[.slice none 0 0, .slice none 0 0], []⟩ 8 (by kernel_rfl) (by kernel_rfl) (by kernel_rfl) (by kernel_rfl)) ?_
  intro W base args ds gs before hval0 hW _ hsz0 _
  have hsz : (DataW.weightsEach Try.prog (Try.f12.params.toList ++ Rows.editOwnSpec.plain.varTypes Try.prog) (ds ++ gs)).all (· ≤ reachBytes) = true := hsz0
  clear hsz0
  have hval : ∀ (j : Nat) t v, Try.f12.params[j]? = some t → args[j]? = some v → Value.okWide Try.prog W .any base t v := hval0
  have hW' := hW
  obtain ⟨p, q, hA0, hV, rfl, hfz, hnd⟩ := hW
  have hA : DataW.TrodAll enc Try.prog W 0 (fun _ => true) true Try.f12.params.toList args.toList ds p := hA0
  rw [Try.params12] at hA hval hsz
  obtain ⟨v0, vs0, d0, ds0, p0, q0, hargs, rfl, rfl, h0, r0⟩ := trodAll_cons hA
  obtain ⟨v1, vs1, d1, ds1, p1, q1, rfl, rfl, rfl, h1, r1⟩ := trodAll_cons r0
  obtain ⟨rfl, rfl, rfl⟩ := trodAll_nil r1
  obtain rfl : args = #[v0, v1] := by cases args; simp_all
  obtain ⟨rfl, rfl⟩ := trodVars_none hV
  have hO : ∀ b, ¬ Own (fun _ => False) (fun _ => none) b := fun b h => by
    rcases h with h | ⟨_, _, h, _⟩
    · exact h
    · cases h
  obtain ⟨A0, len0, cp0, rfl⟩ := okWide_slice Try.underlying22 (hval 0 22 v0 rfl rfl)
  have k0 := h0
  have lt0 : ∀ x ∈ p0, x.block < W.heap.size := by obtain ⟨m, hm⟩ := k0; exact DataW.trod_lt m _ _ _ hm
  obtain ⟨m0, t0⟩ := opened h0
  have z0 : Small (H := H) 22 d0 := fun n hn => by
    have := List.all_eq_true.1 hsz n (DataW.weights_mem_each (j := 0) rfl rfl n hn)
    simpa using this
  obtain ⟨u0, l0, e0, c0, g0⟩ := open_nds (I := fun _ => none) hO t0 z0
  have e0 : Value.slice A0 len0 cp0 = u0 := by simpa [Value.cells] using e0
  subst e0
  obtain ⟨A1, len1, cp1, rfl⟩ := okWide_slice Try.underlying22 (hval 1 22 v1 rfl rfl)
  have k1 := h1
  have lt1 : ∀ x ∈ p1, x.block < W.heap.size := by obtain ⟨m, hm⟩ := k1; exact DataW.trod_lt m _ _ _ hm
  obtain ⟨m1, t1⟩ := opened h1
  have z1 : Small (H := H) 22 d1 := fun n hn => by
    have := List.all_eq_true.1 hsz n (DataW.weights_mem_each (j := 1) rfl rfl n hn)
    simpa using this
  obtain ⟨u1, l1, e1, c1, g1⟩ := open_nds (I := fun _ => none) hO t1 z1
  have e1 : Value.slice A1 len1 cp1 = u1 := by simpa [Value.cells] using e1
  subst e1
  have hH : HRel cx0.tid (fun _ => False) (fun _ => none) (([] : List Blk).map some) W := ⟨fun id => by simp, fun _ _ _ _ _ h => by (cases h), fun _ _ _ h => by (cases h), fun _ _ _ h => by (cases h), fun _ h => h.elim⟩
  have hM := own_holds [.row .node l0, .row .node l1] [] _ rfl (fun _ => False) (fun _ => none) W [_, _] hH (.cons (.leaf c0) (.cons (.leaf c1) (.nil))) (fun p hp => by cases hp <;> exact ⟨g0, g1⟩)
  refine hM.mono ?_
  rintro e W' ⟨v, I', rfl, hv, _, _, _, _, hos, htape, hout, hsize, hkept⟩
  have hv := hv.bool
  subst hv
  have bel : Below W.heap.size W W' := ⟨hos, htape, hout, hsize, fun k hk => hkept k hk fun _ _ h => by (cases h)⟩
  exact ⟨_, rfl, _, _, _, [], _, [], hW', trodAll_mk1 (shut_bool Try.underlying4 _), (trodAll_mk2 (Below.trod laidOut (by kernel_rfl) (of_decide_eq_true (by kernel_rfl)) k0 bel lt0) (Below.trod laidOut (by kernel_rfl) (of_decide_eq_true (by kernel_rfl)) k1 bel lt1)), rfl, bel.frame _, fun h => by cases h⟩
theorem over : Rows.EditOwnSaid :=
  OpenClaim.holds_of_wide 12 Try.f12 rfl rfl rfl rfl rfl rfl rfl ⟨rfl, rfl, rfl, rfl, rfl⟩ rfl rfl rfl rfl rfl (by kernel_rfl) Try.func12 (by kernel_rfl)
    (of_decide_eq_true (by kernel_rfl)) (by unfold Func.isWrapper; first | (rw [if_pos (by decide +kernel)]; kernel_rfl) | (rw [if_neg (by decide +kernel)]; exact ⟨rfl, rfl⟩))
    (fun os started H enc _ => lifted os started H enc)
#print axioms over
end Go.Proofs.Ytmkjjopflncedaa.editOwn
namespace Go.Proofs.Ytmkjjopflncedaa
/-- The statement, under a short name, for the claim. -/
theorem editOwn_holds : Rows.EditOwnSaid := editOwn.over
end Go.Proofs.Ytmkjjopflncedaa
