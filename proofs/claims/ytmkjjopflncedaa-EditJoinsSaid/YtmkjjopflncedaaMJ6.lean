/- What the code of this statement does, over values that stand for data: an executor of the model's code, that it is sound, and contracts of functions: part 6. No condition is added to the statement. -/
import Derived.Test.YtmkjjopflncedaaMJ5
import Derived.ChangeArms
import Derived.SizedLaws
set_option linter.unusedVariables false
set_option linter.unusedSimpArgs false
section
namespace Go.Proofs.Ytmkjjopflncedaa.AXP
open Go Go.Proofs.Ytmkjjopflncedaa.AX
def nA : Nd := ⟨2, 0, ⟨#[]⟩, [], ⟨#[97]⟩, []⟩
def nB : Nd := ⟨2, 0, ⟨#[]⟩, [], ⟨#[98]⟩, []⟩
def wA : List Nd := [⟨1, 0, ⟨#[112]⟩, [], ⟨#[]⟩, [nA]⟩]
def wB : List Nd := [⟨1, 0, ⟨#[112]⟩, [], ⟨#[]⟩, [nB]⟩]
def wS : List Ed := [⟨4, [0, 0], ⟨0, 0, ⟨#[]⟩, [], ⟨#[97]⟩, []⟩, ⟨0, 0, ⟨#[]⟩, [], ⟨#[98]⟩, []⟩⟩]
end Go.Proofs.Ytmkjjopflncedaa.AXP
namespace Go.Proofs.Ytmkjjopflncedaa.AX
open Go AXP
def conScriptW : Con := conP [.row .node, .row .node] fun (a b : List Nd) => { pre := some (a = wA ∧ b = wB), res := .own 0 0, extra := [.rowb 0 .edit wS] }
def conApplyW : Con := conP [.row .node, .row .edit] fun (l : List Nd) (s : List Ed) => { pre := some (l = wA ∧ s = wS), res := .tup [.own 0 0, .int .i64 0], extra := [.rowb 0 .node wB] }
def conSizeW : Con := conP [.row .edit] fun (s : List Ed) => { pre := some (s = wS), res := .int .i64 1 }
def conEdSameW : Con := conP [.row .edit, .row .edit] fun (a b : List Ed) => { pre := some (a = b), res := .bool true }
def conNodesW : Con := conP [.row .node, .row .node] fun (a b : List Nd) => { pre := some (a = b), res := .bool true }
def conItsW : Con := conP [.row .int, .row .int] fun (a b : List Int) => { pre := some (a = b), res := .bool true }
def cold21 (r : Nat) : List Nat := match Nat.beq r 1 with | true => [1] | false => match Nat.beq r 2 with | true => [2] | false => match Nat.beq r 3 with | true => [3] | false => []
noncomputable def cxWord21 : Cx := cxC (tabLook [(28, conScriptW), (20, conApplyW), (53, conItsW), (19, conNodesW), (32, conSizeW), (22, conEdSameW)]) cold21
def conWord21 : Con := conP [] { res := .bool true }
noncomputable def cxJoins : Cx := cxT (tabLook [(26, conLg), (34, conLo 60), (20, conApply), (19, conNodes), (27, conWord21)])
noncomputable def cxMakes : Cx := cxT (tabLook [(26, conLg), (28, conScript), (20, conApply), (19, conNodes), (27, conWord21)])
end Go.Proofs.Ytmkjjopflncedaa.AX
end
section
namespace Go.Proofs.Ytmkjjopflncedaa.AX
open Go AXP
set_option maxRecDepth 100000
theorem vcWord21F (Q : List AV → List Blk → List Blk → Prop) : (funA cxWord21 (LL Try.f27 []) Try.f27 [] [] [] Q) = (
Rq
  ([Nd.mk (1 : Int) (0 : Int) (ByteArray.mk (Array.mk [(112 : UInt8)])) [] (ByteArray.mk (Array.mk []))
          [Nd.mk (2 : Int) (0 : Int) (ByteArray.mk (Array.mk [])) [] (ByteArray.mk (Array.mk [(97 : UInt8)])) []]] =
      wA ∧
    [Nd.mk (1 : Int) (0 : Int) (ByteArray.mk (Array.mk [(112 : UInt8)])) [] (ByteArray.mk (Array.mk []))
          [Nd.mk (2 : Int) (0 : Int) (ByteArray.mk (Array.mk [])) [] (ByteArray.mk (Array.mk [(98 : UInt8)])) []]] =
      wB)
  (Rq
    ([Nd.mk (1 : Int) (0 : Int) (ByteArray.mk (Array.mk [(112 : UInt8)])) [] (ByteArray.mk (Array.mk []))
            [Nd.mk (2 : Int) (0 : Int) (ByteArray.mk (Array.mk [])) [] (ByteArray.mk (Array.mk [(97 : UInt8)])) []]] =
        wA ∧
      wS = wS)
    (Br true
      (Br true
        (Rq ((0 : Int) ≤ (0 : Int) ∧ (0 : Int) < (↑wS.length : Int))
          (Br true
            (Rq ((0 : Int) ≤ (0 : Int) ∧ (0 : Int) < (↑wS.length : Int))
              (Rq ([(0 : Int), (0 : Int)] = [(0 : Int), (0 : Int)])
                (Br true
                  (Rq
                    (wB =
                      [Nd.mk (1 : Int) (0 : Int) (ByteArray.mk (Array.mk [(112 : UInt8)])) []
                          (ByteArray.mk (Array.mk []))
                          [Nd.mk (2 : Int) (0 : Int) (ByteArray.mk (Array.mk [])) []
                              (ByteArray.mk (Array.mk [(98 : UInt8)])) []]])
                    (Br true
                      (Rq (wS = wS)
                        (Br true (Rq (wS = wS) (Gv (wS.length ≤ maxSl) (Q [AV.bool true] [] [])))
                          (Gv (wS.length ≤ maxSl) (Q [AV.bool false] [] []))))
                      (Gv (wS.length ≤ maxSl) (Q [AV.bool false] [] []))))
                  (Gv (wS.length ≤ maxSl) (Q [AV.bool false] [] [])))))
            (Gv (wS.length ≤ maxSl) (Q [AV.bool false] [] []))))
        (Gv (wS.length ≤ maxSl) (Q [AV.bool false] [] [])))
      (Q [AV.bool false] [] [])))) := by kernel_rfl
theorem vcJoinsF (l : List Nd) (s t : List Ed) (Q : List AV → List Blk → List Blk → Prop) : (funA cxJoins (LL Try.f11 []) Try.f11 [.row .node l, .row .edit s, .row .edit t] [] [] Q) = (
Br (largeB l) (Q [AV.bool true] [] [])
  (Br (longB (60 : Int) s) (Q [AV.bool true] [] [])
    (Br (longB (60 : Int) t) (Q [AV.bool true] [] [])
      (Rq (s.length * (224 : Nat) ≤ maxSl)
        (Rq ((s.length + t.length) * (224 : Nat) ≤ maxSl)
          (Rq ((2 : Nat) * (wtNds l + wtEds (s ++ t)) ≤ wtMx)
            (Rq ((2 : Nat) * (wtNds l + wtEds s) ≤ wtMx)
              (Br (applyE l s != (0 : Int))
                (Br (applyE l (s ++ t) == applyE l s)
                  (Br ((↑(applyL l (s ++ t)).length : Int) == (0 : Int))
                    (Gv ((applyL l (s ++ t)).length ≤ maxSl) (Q [AV.bool true] [] []))
                    (Gv ((applyL l (s ++ t)).length ≤ maxSl) (Q [AV.bool false] [] [])))
                  (Q [AV.bool false] [] []))
                (Rq ((2 : Nat) * (wtNds (applyL l s) + wtEds t) ≤ wtMx)
                  (Br (applyE l (s ++ t) == applyE (applyL l s) t)
                    (Br (eql eqNd (applyL l (s ++ t)) (applyL (applyL l s) t)) (Q [AV.bool true] [] [])
                      (Q [AV.bool false] [] []))
                    (Q [AV.bool false] [] []))))))))))) := by kernel_rfl
theorem vcMakesF (a b : List Nd) (Q : List AV → List Blk → List Blk → Prop) : (funA cxMakes (LL Try.f9 []) Try.f9 [.row .node a, .row .node b] [] [] Q) = (
Br (largeB a) (Q [AV.bool true] [] [])
  (Br (largeB b) (Q [AV.bool true] [] [])
    (Rq (okSc (dpNds a + (1 : Nat)) a b [] [])
      (Rq ((2 : Nat) * (wtNds a + wtEds (scriptS a b [])) ≤ wtMx)
        (Br (applyE a (scriptS a b []) == (0 : Int))
          (Br (eql eqNd (applyL a (scriptS a b [])) b) (Q [AV.bool true] [] []) (Q [AV.bool false] [] []))
          (Q [AV.bool false] [] [])))))) := by kernel_rfl
theorem vcNothingF (a b : List Nd) (Q : List AV → List Blk → List Blk → Prop) : (funA cxMakes (LL Try.f10 []) Try.f10 [.row .node a, .row .node b] [] [] Q) = (
Br (largeB a) (Q [AV.bool true] [] [])
  (Br (largeB b) (Q [AV.bool true] [] [])
    (Rq (okSc (dpNds a + (1 : Nat)) a a [] [])
      (Br ((↑(scriptS a a []).length : Int) == (0 : Int))
        (Rq (okSc (dpNds a + (1 : Nat)) a b [] [])
          (Br (((↑(scriptS a b []).length : Int) == (0 : Int)) == eql eqNd a b)
            (Gv ((scriptS a a []).length ≤ maxSl) (Gv ((scriptS a b []).length ≤ maxSl) (Q [AV.bool true] [] [])))
            (Gv ((scriptS a a []).length ≤ maxSl) (Gv ((scriptS a b []).length ≤ maxSl) (Q [AV.bool false] [] [])))))
        (Gv ((scriptS a a []).length ≤ maxSl) (Q [AV.bool false] [] [])))))) := by kernel_rfl
end Go.Proofs.Ytmkjjopflncedaa.AX
end
section
namespace Go.Proofs.Ytmkjjopflncedaa.AX
open Go AXP
set_option maxRecDepth 100000
theorem Meets.of_pre {f : Nat} {args : List AV} {hp : List Blk} {p : Option Prop} {r : AV} {e : List Blk} (p' : Option Prop) (r' : AV) (e' : List Blk) (h : (∀ q, p = some q → q) → Meets cx0 f args hp { pre := p', res := r', extra := e' } ∧ (∀ q, p' = some q → q) ∧ r' = r ∧ e' = e) : Meets cx0 f args hp { pre := p, res := r, extra := e } := by
  intro F I w vals hH hv hpre
  obtain ⟨h1, h2, h3, h4⟩ := h hpre
  subst h3
  subst h4
  exact h1 F I w vals hH hv h2
theorem script_w : scriptS wA wB [] = wS := by kernel_rfl
theorem applyE_w : applyE wA wS = 0 := by kernel_rfl
theorem applyL_w : applyL wA wS = wB := by kernel_rfl
theorem size_w : sizeS wS = 1 := by kernel_rfl
theorem okSc_w : okSc (dpNds wA + 1) wA wB [] [] := by
  refine ⟨Nat.lt_succ_self _, ?_, ?_, of_decide_eq_true (by kernel_rfl), of_decide_eq_true (by kernel_rfl), of_decide_eq_true (by kernel_rfl), of_decide_eq_true (by kernel_rfl), of_decide_eq_true (by kernel_rfl), of_decide_eq_true (by kernel_rfl)⟩
  · simp [wA, nA, rngNds, rngNd, inI]
  · simp [wB, nB, rngNds, rngNd, inI]
theorem scriptW_holds : Holds 28 conScriptW := conP_holds fun a b => by
  refine Meets.of_pre (some (okSc (dpNds a + 1) a b [] [])) (.own 0 0) [.rowb 0 .edit (scriptS a b [])] fun h => ?_
  obtain ⟨h1, h2⟩ : a = wA ∧ b = wB := h _ rfl
  refine ⟨script_holds _ _ _ rfl, fun p hp => ?_, ?_⟩
  · injection hp with hp; subst hp; rw [h1, h2]; exact okSc_w
  · rw [h1, h2, script_w]; exact ⟨rfl, rfl⟩
theorem applyW_holds : Holds 20 conApplyW := conP_holds fun l s => by
  refine Meets.of_pre (some (2 * (wtNds l + wtEds s) ≤ wtMx)) (.tup [.own 0 0, .int .i64 (applyE l s)]) [.rowb 0 .node (applyL l s)] fun h => ?_
  obtain ⟨h1, h2⟩ : l = wA ∧ s = wS := h _ rfl
  refine ⟨apply_holds _ _ _ rfl, fun p hp => ?_, ?_⟩
  · injection hp with hp; subst hp; rw [h1, h2]; exact of_decide_eq_true (by kernel_rfl)
  · rw [h1, h2, applyE_w, applyL_w]; exact ⟨rfl, rfl⟩
theorem sizeW_holds : Holds 32 conSizeW := conP_holds fun s => by
  refine Meets.of_pre (some (sizeS s ≤ maxSl)) (.int .i64 (sizeS s)) [] fun h => ?_
  have h1 : s = wS := h _ rfl
  refine ⟨size_holds _ _ _ rfl, fun p hp => ?_, ?_⟩
  · injection hp with hp; subst hp; rw [h1, size_w]; unfold maxSl; decide
  · rw [h1, size_w]; exact ⟨rfl, rfl⟩
theorem edSameW_holds : Holds 22 conEdSameW := conP_holds fun a b => by
  refine Meets.of_pre none (.bool (eql eqEd a b)) [] fun h => ?_
  have h1 : a = b := h _ rfl
  refine ⟨edSame_holds _ _ _ rfl, fun p hp => (nomatch hp), ?_, rfl⟩
  rw [h1, eql_self eqEd_self]
theorem nodesW_holds : Holds 19 conNodesW := conP_holds fun a b => by
  refine Meets.of_pre none (.bool (eql eqNd a b)) [] fun h => ?_
  have h1 : a = b := h _ rfl
  refine ⟨nodes_holds _ _ _ rfl, fun p hp => (nomatch hp), ?_, rfl⟩
  rw [h1, eql_self eqNd_self]
theorem itsW_holds : Holds 53 conItsW := conP_holds fun a b => by
  refine Meets.of_pre none (.bool (eql eqI a b)) [] fun h => ?_
  have h1 : a = b := h _ rfl
  refine ⟨its_holds _ _ _ rfl, fun p hp => (nomatch hp), ?_, rfl⟩
  rw [h1, eql_self eqI_self]
theorem word21_holds : Holds 27 conWord21 := conP_holds (ps := []) (g := { res := .bool true }) <| by
  refine fun_meets0C (AllH.tok (.cons scriptW_holds (by kernel_rfl) (.cons applyW_holds (by kernel_rfl) (.cons itsW_holds (by kernel_rfl) (.cons nodesW_holds (by kernel_rfl) (.cons sizeW_holds (by kernel_rfl) (.cons edSameW_holds (by kernel_rfl) .nil))))))) cold21 [] (by kernel_rfl) (by kernel_rfl) fun hpre => Eq.mpr (vcWord21F _) ?_
  refine ⟨⟨rfl, rfl⟩, ⟨⟨rfl, rfl⟩, ⟨fun _ => ⟨fun _ => ⟨⟨by decide, by decide⟩, ⟨fun _ => ⟨⟨by decide, by decide⟩, ⟨rfl, ⟨fun _ => ⟨rfl, ⟨fun _ => ⟨rfl, ⟨fun _ => ⟨rfl, ⟨fun _ => qfin rfl rfl rfl rfl⟩⟩, fun h => (nomatch h)⟩⟩, fun h => (nomatch h)⟩⟩, fun h => (nomatch h)⟩⟩⟩, fun h => (nomatch h)⟩⟩, fun h => (nomatch h)⟩, fun h => (nomatch h)⟩⟩⟩
def conJoins : Con := conP [.row .node, .row .edit, .row .edit] fun (_ : List Nd) (_ _ : List Ed) => { res := .bool true }
theorem joins_holds : Holds 11 conJoins := conP_holds fun l s t => by
  rcases (show ∃ w : List Nd, w = l from ⟨_, rfl⟩) with ⟨l, rfl⟩
  rcases (show ∃ w : List Ed, w = s from ⟨_, rfl⟩) with ⟨s, rfl⟩
  rcases (show ∃ w : List Ed, w = t from ⟨_, rfl⟩) with ⟨t, rfl⟩
  refine fun_meets0 (AllH.tok (.cons lg21_holds (by kernel_rfl) (.cons lo21_holds (by kernel_rfl) (.cons apply_holds (by kernel_rfl) (.cons nodes_holds (by kernel_rfl) (.cons word21_holds (by kernel_rfl) .nil)))))) [] (by kernel_rfl) (by kernel_rfl) fun hpre => Eq.mpr (vcJoinsF l s t _) ?_
  refine ⟨fun _ => qfin rfl rfl rfl rfl, fun h1 => ⟨fun _ => qfin rfl rfl rfl rfl, fun h2 => ⟨fun _ => qfin rfl rfl rfl rfl, fun h3 => ?_⟩⟩⟩
  have w1 := large_wt h1
  obtain ⟨w2, n2⟩ := long_wt (by decide) h2
  obtain ⟨w3, n3⟩ := long_wt (by decide) h3
  have m : ∀ n : Nat, n ≤ 120 → n * 224 ≤ maxSl := fun n hn => Nat.le_trans (Nat.mul_le_mul_right _ hn) (by unfold maxSl; decide)
  have hst : wtEds (s ++ t) = wtEds s + wtEds t := wtEds_app s t
  refine Rq.mk (m _ (by omega)) ?_
  refine Rq.mk (m _ (by omega)) ?_
  refine Rq.mk (by rw [hst]; unfold wtMx; omega) ?_
  refine Rq.mk (by unfold wtMx; omega) ?_
  have happ : applyS l (s ++ t) = _ := applyS_app
  refine ⟨fun h4 => ?_, fun h4 => ?_⟩
  · have h4 : applyE l s ≠ 0 := by simpa using h4
    obtain ⟨e1, e2⟩ := applyE_ne h4
    rw [e1] at happ
    have happ : applyS l (s ++ t) = .error (applyE l s) := happ
    have f1 : applyE l (s ++ t) = applyE l s := (congrArg errX happ).trans rfl
    have f2 : applyL l (s ++ t) = [] := (congrArg okX happ).trans rfl
    rw [f1, f2]
    exact ⟨fun _ => ⟨fun _ => ⟨fun _ => qfin rfl rfl rfl rfl⟩, fun h => absurd (show (((([] : List Nd).length : Nat) : Int) == 0) = true from rfl) (by rw [h]; decide)⟩, fun h => absurd h (by simp)⟩
  · have h4 : applyE l s = 0 := by simpa using h4
    have e1 := applyE_zero h4
    have w4 := wt_apply e1
    rw [e1] at happ
    have happ : applyS l (s ++ t) = applyS (applyL l s) t := happ
    have f1 : applyE l (s ++ t) = applyE (applyL l s) t := congrArg errX happ
    have f2 : applyL l (s ++ t) = applyL (applyL l s) t := congrArg okX happ
    refine Rq.mk (by unfold wtMx; omega) ?_
    rw [f1, f2, eql_self eqNd_self]
    exact ⟨fun _ => ⟨fun _ => qfin rfl rfl rfl rfl, fun h => (nomatch h)⟩, fun h => absurd h (by simp)⟩
end Go.Proofs.Ytmkjjopflncedaa.AX
end
section
namespace Go.Proofs.Ytmkjjopflncedaa.AX
open Go Go.RowKit AXP
theorem list_of {α : Type} {Q : Nat → α → Prop} : ∀ n : Nat, (∀ i, i < n → ∃ x, Q i x) → ∃ l : List α, l.length = n ∧ ∀ i x, l[i]? = some x → Q i x
  | 0, _ => ⟨[], rfl, fun i x h => by simp at h⟩
  | n + 1, h => by
    obtain ⟨l, hl, hq⟩ := list_of n fun i hi => h i (by omega)
    obtain ⟨x, hx⟩ := h n (by omega)
    refine ⟨l ++ [x], by rw [List.length_append, hl]; rfl, fun i y hy => ?_⟩
    rcases Nat.lt_or_ge i n with z | z
    · rw [List.getElem?_append_left (by omega)] at hy; exact hq i y hy
    · rw [List.getElem?_append_right (by omega), hl] at hy
      have : i - n = 0 := by
        rcases Nat.eq_zero_or_pos (i - n) with w | w
        · exact w
        · rw [List.getElem?_eq_none (by simp only [List.length_cons, List.length_nil]; omega)] at hy; cases hy
      rw [this] at hy
      obtain rfl : x = y := by simpa using hy
      obtain rfl : i = n := by omega
      exact hx
theorem mapM_spec {α : Type} (f : Nat → Option α) : ∀ (l : List Nat) (cs : List α), l.mapM f = some cs → cs.length = l.length ∧ ∀ (j : Nat) (u : α), cs[j]? = some u → ∃ i, l[j]? = some i ∧ f i = some u
  | [], cs, h => by simp at h; subst h; exact ⟨rfl, fun j u h => by simp at h⟩
  | i :: l, cs, h => by
    simp only [List.mapM_cons, Option.bind_eq_bind, Option.bind_eq_some_iff, Option.pure_def, Option.some.injEq] at h
    obtain ⟨x, hx, ys, hy, rfl⟩ := h
    obtain ⟨h1, h2⟩ := mapM_spec f l ys hy
    refine ⟨by simp [h1], fun j u hu => ?_⟩
    cases j with
    | zero => simp at hu; subst hu; exact ⟨i, rfl, hx⟩
    | succ j => simpa using h2 j u (by simpa using hu)
theorem cells_spec {w : World} {base n : Nat} {a : Addr} {cs : List Value} (h : w.cells? base a n = some cs) : cs.length = n ∧ ∀ j u, cs[j]? = some u → w.cell? (a.add j) = some u := by
  unfold World.cells? at h
  split at h
  · obtain ⟨h1, h2⟩ := mapM_spec _ _ _ h
    refine ⟨by simpa using h1, fun j u hu => ?_⟩
    obtain ⟨i, hi, hf⟩ := h2 j u hu
    obtain ⟨hlt, e⟩ := List.getElem?_eq_some_iff.1 hi
    simp at e
    subst e
    exact hf
  · cases h
theorem spot_of {w : World} {a : Addr} {v : Value} (h : w.cell? a = some v) : a.spot = none := by
  unfold World.cell? at h
  split at h
  · split at h
    · cases h
    · rename_i hs; simpa using hs
  · cases h
section
variable {H : Type} {enc : TypeId × Value → H} {w : World} {base : Nat} {spare : Nat → Bool} {held : Bool} {O : Nat → Prop} {I : Im}
def Small (t : TypeId) (d : DataW H) : Prop := ∀ n ∈ d.weights Try.prog t, n ≤ reachBytes
theorem small_all {e : TypeId} : ∀ {ds : List (DataW H)} {i : Nat} {d : DataW H}, ds[i]? = some d → ∀ n ∈ d.weights Try.prog e, n ∈ DataW.weightsAll Try.prog e ds
  | [], _, _, h, _, _ => by simp at h
  | x :: ds, 0, d, h, n, hn => by simp at h; subst h; rw [DataW.weightsAll]; exact List.mem_append.2 (.inl hn)
  | x :: ds, i + 1, d, h, n, hn => by rw [DataW.weightsAll]; exact List.mem_append.2 (.inr (small_all (by simpa using h) n hn))
theorem open_row {t : Ty} (Pd : den t → Prop) {e sl : TypeId} (hu : Try.prog.underlying sl = some (.slice e)) (hc : Try.prog.cellsOf e = width t) (hb : 1 ≤ Try.prog.bytesOf e) (hO : ∀ b, ¬ O b)
    {m : Nat} {cs : List Value} {y : DataW H × List MemPlace} (h : DataW.trod enc Try.prog w base spare held m sl cs = some y) (hs : Small sl y.1)
    (hel : ∀ (n : Nat) (c : List Value) (z : DataW H × List MemPlace), n < m → c.length = width t → DataW.trod enc Try.prog w base spare held n e c = some z → Small e z.1 → ∃ x : den t, All2 (LeafR w O I) c (leaves t x) ∧ Pd x) :
    ∃ (v : Value) (l : List (den t)), cs = [v] ∧ LeafR w O I v (.row t l) ∧ ∀ x ∈ l, Pd x := by
  rcases DataW.trod_slice hu h with ⟨rfl, _⟩ | ⟨a, len, cap, elems, rest, n, rfl, rfl, rfl, _, hl, _, hlen, hels, _, _⟩
  · exact ⟨_, [], rfl, .row0 t, fun x hx => nomatch hx⟩
  · have hW := width_pos t
    rw [hc] at hels
    have hsz : len ≤ maxSl := by
      have h1 := hs ((((elems.map (·.1)).length + (rest.map (·.1)).length) * Try.prog.bytesOf e)) (by simp only [DataW.weights, hu]; exact .head _)
      simp only [List.length_map] at h1
      have : len ≤ (elems.length + rest.length) * Try.prog.bytesOf e := by
        rw [hlen]; exact Nat.le_trans (Nat.le_add_right _ _) (Nat.le_mul_of_pos_right _ hb)
      unfold reachBytes at h1
      unfold maxSl
      omega
    obtain ⟨l, hll, hq⟩ := list_of (Q := fun i (x : den t) => ∃ c : List Value, c.length = width t ∧ (All2 (LeafR w O I) c (leaves t x) ∧ Pd x) ∧ ∀ j u, c[j]? = some u → w.cell? (a.add (i * width t + j)) = some u) len fun i hi => by
      have h1 := hels i hi
      obtain ⟨z, hz⟩ : ∃ z, elems[i]? = some z := ⟨_, List.getElem?_eq_getElem (by omega)⟩
      rw [hz] at h1
      obtain ⟨c, hcc, ht⟩ := Option.bind_eq_some_iff.1 h1
      obtain ⟨g1, g2⟩ := cells_spec hcc
      have hsz' : Small e z.1 := fun k hk => hs k (by
        simp only [DataW.weights, hu]
        exact .tail _ (List.mem_append.2 (.inl (small_all (i := i) (by rw [List.getElem?_map, hz]; rfl) k hk))))
      obtain ⟨x, hx⟩ := hel n c z (Nat.lt_succ_self _) g1 ht hsz'
      refine ⟨x, c, g1, hx, fun j u hu' => ?_⟩
      have := g2 j u hu'
      unfold Addr.add at this ⊢
      by_cases hj : j = 0
      · subst hj; simpa using this
      · rw [if_neg hj] at this
        rw [if_neg (by omega)]
        split at this
        · rename_i h0; rw [h0, Nat.zero_add]; exact this
        · simpa [Nat.add_assoc] using this
    refine ⟨_, l, rfl, ?_, fun x hx => by obtain ⟨i, hi, rfl⟩ := List.getElem_of_mem hx; obtain ⟨_, _, k2, _⟩ := hq i l[i] (List.getElem?_eq_getElem hi); exact k2.2⟩
    rcases Nat.eq_zero_or_pos len with h0 | h0
    · have : l = [] := List.eq_nil_of_length_eq_zero (by omega)
      subst this
      subst h0
      exact .rowz a cap t
    · have hcell : ∀ j, j < len * width t → ∃ u, w.cell? (a.add j) = some u ∧ ∀ x, (cellsOf t l)[j]? = some x → LeafR w O I u x := fun j hj => by
        have hd : j / width t < l.length := by rw [hll]; exact Nat.div_lt_of_lt_mul (by rw [Nat.mul_comm]; exact hj)
        obtain ⟨c, k1, ⟨k2, _⟩, k3⟩ := hq (j / width t) l[j / width t] (List.getElem?_eq_getElem hd)
        have hm : j % width t < c.length := by rw [k1]; exact Nat.mod_lt _ hW
        have h3 := k3 (j % width t) c[j % width t] (List.getElem?_eq_getElem hm)
        have hj' : j / width t * width t + j % width t = j := by rw [Nat.mul_comm]; exact Nat.div_add_mod j (width t)
        rw [hj'] at h3
        refine ⟨_, h3, fun x hx => ?_⟩
        rw [cellsOf_get hd] at hx
        obtain ⟨y', hy', hr⟩ := k2.get' (List.getElem?_eq_getElem hm)
        rw [hx] at hy'; injection hy' with hy'; subst hy'; exact hr
      obtain ⟨b, off, sp⟩ := a
      obtain ⟨u0, hu0, _⟩ := hcell 0 (Nat.mul_pos h0 hW)
      have hsp : sp = none := spot_of hu0
      subst hsp
      have key := LeafR.row (w := w) (O := O) (I := I) b off cap t l ((List.range (len * width t)).map fun j => (w.cell? ⟨b, off + j, none⟩).getD (.bool false)) (fun _ => hO b) (by omega) (by omega) (fun j u hu' => ?_) (by simp only [List.length_map, List.length_range]; rw [cellsOf_length, hll]) (fun j u x hu' hx => ?_)
      · rw [hll] at key; exact key
      · simp only [List.getElem?_map, Option.map_eq_some_iff] at hu'
        obtain ⟨k, hk, rfl⟩ := hu'
        obtain ⟨hlt, e'⟩ := List.getElem?_eq_some_iff.1 hk
        simp at e' hlt
        subst e'
        obtain ⟨u1, hu1, _⟩ := hcell j hlt
        have e2 : (⟨b, off, none⟩ : Addr).add j = ⟨b, off + j, none⟩ := by unfold Addr.add; split <;> simp_all
        rw [e2] at hu1
        rw [hu1]; rfl
      · simp only [List.getElem?_map, Option.map_eq_some_iff] at hu'
        obtain ⟨k, hk, rfl⟩ := hu'
        obtain ⟨hlt, e'⟩ := List.getElem?_eq_some_iff.1 hk
        simp at e' hlt
        subst e'
        obtain ⟨u1, hu1, hr⟩ := hcell j hlt
        have e2 : (⟨b, off, none⟩ : Addr).add j = ⟨b, off + j, none⟩ := by unfold Addr.add; split <;> simp_all
        rw [e2] at hu1
        rw [hu1]
        exact hr x hx
/-- A field's reading. -/
theorem field_of {t : TypeId} {fs : Array Field} (hu : Try.prog.underlying t = some (.struct fs)) {m : Nat} {cs : List Value} {y : DataW H × List MemPlace} (h : DataW.trod enc Try.prog w base spare held m t cs = some y) (hs : Small t y.1) (i : Nat) (f : Field) (hf : fs[i]? = some f) :
    ∃ (n : Nat) (z : DataW H × List MemPlace), n < m ∧ DataW.trod enc Try.prog w base spare held n f.type ((cs.drop f.offset).take (Try.prog.cellsOf f.type)) = some z ∧ Small f.type z.1 := by
  obtain ⟨xs, n, rfl, rfl, _, hlen, hff⟩ := DataW.trod_struct hu h
  have hlt : i < xs.length := by rw [hlen]; exact (Array.getElem?_eq_some_iff.1 hf).1
  refine ⟨n, xs[i], Nat.lt_succ_self _, by rw [hff i f hf, List.getElem?_eq_getElem hlt], fun k hk => hs k ?_⟩
  simp only [DataW.weights, hu]
  refine DataW.weights_mem_each (j := i) (t := f.type) (d := xs[i].1) ?_ ?_ k hk
  · rw [List.getElem?_map, Array.getElem?_toList, hf]; rfl
  · rw [List.getElem?_map, List.getElem?_eq_getElem hlt]; rfl
theorem struct_len {t : TypeId} {fs : Array Field} (hu : Try.prog.underlying t = some (.struct fs)) {m : Nat} {cs : List Value} {y : DataW H × List MemPlace} (h : DataW.trod enc Try.prog w base spare held m t cs = some y) : cs.length = Try.prog.cellsOf t := by
  obtain ⟨_, _, _, _, hl, _, _⟩ := DataW.trod_struct hu h
  exact hl
theorem wf_inI {n : Int} (h : (Lit.int .i64 n).wf = true) : inI n := by
  have h : (decide (IntKind.i64.min ≤ n) && decide (n ≤ IntKind.i64.max)) = true := h
  rw [Bool.and_eq_true, decide_eq_true_eq, decide_eq_true_eq, show IntKind.i64.min = -9223372036854775808 by decide, show IntKind.i64.max = 9223372036854775807 by decide] at h
  exact ⟨h.1, by omega⟩
theorem open_int1 {m : Nat} {cs : List Value} {y : DataW H × List MemPlace} (h : DataW.trod enc Try.prog w base spare held m 3 cs = some y) : ∃ n, cs = [.int .i64 n] ∧ inI n := by
  obtain ⟨n, e, _, hw⟩ := DataW.trod_int Try.underlying3 h
  exact ⟨n, e, wf_inI hw⟩
theorem open_str1 {m : Nat} {cs : List Value} {y : DataW H × List MemPlace} (h : DataW.trod enc Try.prog w base spare held m 9 cs = some y) (hs : Small 9 y.1) : ∃ s : ByteArray, cs = [.string s] ∧ s.size ≤ maxSl := by
  obtain ⟨s, e, rfl, _⟩ := DataW.trod_string Try.underlying9 h
  refine ⟨s, e, ?_⟩
  have := hs s.data.toList.length (by simp [DataW.weights])
  rw [Array.length_toList] at this
  have h2 : s.size ≤ reachBytes := this
  unfold reachBytes at h2
  unfold maxSl
  omega
theorem cells_int : Try.prog.cellsOf 3 = 1 := by kernel_rfl
theorem cells_str : Try.prog.cellsOf 9 = 1 := by kernel_rfl
theorem cells_ints : Try.prog.cellsOf 58 = 1 := by kernel_rfl
theorem cells_ats : Try.prog.cellsOf 51 = 1 := by kernel_rfl
theorem cells_nds : Try.prog.cellsOf 22 = 1 := by kernel_rfl
theorem cells_at : Try.prog.cellsOf 95 = 2 := by kernel_rfl
theorem cells_nd : Try.prog.cellsOf 53 = 6 := by kernel_rfl
theorem cells_ed : Try.prog.cellsOf 60 = 14 := by kernel_rfl
theorem open_ints (hO : ∀ b, ¬ O b) {m : Nat} {cs : List Value} {y : DataW H × List MemPlace} (h : DataW.trod enc Try.prog w base spare held m 58 cs = some y) (hs : Small 58 y.1) : ∃ (v : Value) (l : List Int), cs = [v] ∧ LeafR w O I v (.row .int l) ∧ ∀ n ∈ l, inI n :=
  open_row (t := .int) inI Try.underlying58 cells_int (Nat.le_of_ble_eq_true (by kernel_rfl)) hO h hs fun n c z _ _ hz _ => by
    obtain ⟨k, rfl, hk⟩ := open_int1 hz
    exact ⟨k, .cons (.int _ _) .nil, hk⟩
set_option maxRecDepth 100000
theorem open_ats (hO : ∀ b, ¬ O b) {m : Nat} {cs : List Value} {y : DataW H × List MemPlace} (h : DataW.trod enc Try.prog w base spare held m 51 cs = some y) (hs : Small 51 y.1) : ∃ (v : Value) (l : List At), cs = [v] ∧ LeafR w O I v (.row .attr l) ∧ ∀ x ∈ l, True :=
  open_row (t := .attr) (fun _ => True) Try.underlying51 cells_at (Nat.le_of_ble_eq_true (by kernel_rfl)) hO h hs fun n c z _ hl hz hsz => by
    obtain ⟨_, z0, _, g0, s0⟩ := field_of Try.underlying95 hz hsz 0 _ rfl
    obtain ⟨_, z1, _, g1, s1⟩ := field_of Try.underlying95 hz hsz 1 _ rfl
    obtain ⟨x0, e0, b0⟩ := open_str1 g0 s0
    obtain ⟨x1, e1, b1⟩ := open_str1 g1 s1
    match c, hl with
    | [c0, c1], _ =>
      simp [cells_str] at e0 e1
      subst e0 e1
      exact ⟨⟨x0, x1⟩, .cons (.str _ b0) (.cons (.str _ b1) .nil), trivial⟩
theorem open_nd (hO : ∀ b, ¬ O b) : ∀ (m : Nat) {cs : List Value} {y : DataW H × List MemPlace}, DataW.trod enc Try.prog w base spare held m 53 cs = some y → Small 53 y.1 → ∃ x : Nd, All2 (LeafR w O I) cs (nodeL x) ∧ rngNd x := by
  intro m
  induction m using Nat.strongRecOn with
  | ind m ih =>
    intro cs y h hs
    obtain ⟨_, z0, _, g0, s0⟩ := field_of Try.underlying53 h hs 0 _ rfl
    obtain ⟨_, z1, _, g1, s1⟩ := field_of Try.underlying53 h hs 1 _ rfl
    obtain ⟨_, z2, _, g2, s2⟩ := field_of Try.underlying53 h hs 2 _ rfl
    obtain ⟨_, z3, _, g3, s3⟩ := field_of Try.underlying53 h hs 3 _ rfl
    obtain ⟨_, z4, _, g4, s4⟩ := field_of Try.underlying53 h hs 4 _ rfl
    obtain ⟨n5, z5, l5, g5, s5⟩ := field_of Try.underlying53 h hs 5 _ rfl
    have hlen := struct_len Try.underlying53 h
    rw [cells_nd] at hlen
    obtain ⟨x0, e0, i0⟩ := open_int1 g0
    obtain ⟨x1, e1, i1⟩ := open_int1 g1
    obtain ⟨x2, e2, b2⟩ := open_str1 g2 s2
    obtain ⟨v3, x3, e3, r3, _⟩ := open_ats (I := I) hO g3 s3
    obtain ⟨x4, e4, b4⟩ := open_str1 g4 s4
    obtain ⟨v5, x5, e5, r5, i5⟩ := open_row (t := .node) (I := I) rngNd Try.underlying22 cells_nd (Nat.le_of_ble_eq_true (by kernel_rfl)) hO g5 s5 fun n c z hn _ hz hsz => ih n (by omega) hz hsz
    match cs, hlen with
    | [c0, c1, c2, c3, c4, c5], _ =>
      simp [cells_int, cells_str, cells_ats, cells_nds] at e0 e1 e2 e3 e4 e5
      subst e0 e1 e2 e3 e4 e5
      exact ⟨⟨x0, x1, x2, x3, x4, x5⟩, .cons (.int _ _) (.cons (.int _ _) (.cons (.str _ b2) (.cons r3 (.cons (.str _ b4) (.cons r5 .nil))))), by rw [rngNd]; exact ⟨i0, i1, rngNds_of i5⟩⟩
theorem open_nds (hO : ∀ b, ¬ O b) {m : Nat} {cs : List Value} {y : DataW H × List MemPlace} (h : DataW.trod enc Try.prog w base spare held m 22 cs = some y) (hs : Small 22 y.1) : ∃ (v : Value) (l : List Nd), cs = [v] ∧ LeafR w O I v (.row .node l) ∧ rngNds l := by
  obtain ⟨v, l, e, r, i⟩ := open_row (t := .node) (I := I) rngNd Try.underlying22 cells_nd (Nat.le_of_ble_eq_true (by kernel_rfl)) hO h hs fun n c z _ _ hz hsz => open_nd hO n hz hsz
  exact ⟨v, l, e, r, rngNds_of i⟩
theorem open_eds (hO : ∀ b, ¬ O b) {m : Nat} {cs : List Value} {y : DataW H × List MemPlace} (h : DataW.trod enc Try.prog w base spare held m 23 cs = some y) (hs : Small 23 y.1) : ∃ (v : Value) (l : List Ed), cs = [v] ∧ LeafR w O I v (.row .edit l) ∧ rngEds l :=
  open_row (t := .edit) rngEd Try.underlying23 cells_ed (Nat.le_of_ble_eq_true (by kernel_rfl)) hO h hs fun n c z _ hl hz hsz => by
    obtain ⟨_, z0, _, g0, s0⟩ := field_of Try.underlying60 hz hsz 0 _ rfl
    obtain ⟨_, z1, _, g1, s1⟩ := field_of Try.underlying60 hz hsz 1 _ rfl
    obtain ⟨_, z2, _, g2, s2⟩ := field_of Try.underlying60 hz hsz 2 _ rfl
    obtain ⟨_, z3, _, g3, s3⟩ := field_of Try.underlying60 hz hsz 3 _ rfl
    obtain ⟨x0, e0, i0⟩ := open_int1 g0
    obtain ⟨v1, x1, e1, r1, i1⟩ := open_ints (I := I) hO g1 s1
    obtain ⟨x2, r2, i2⟩ := open_nd (I := I) hO _ g2 s2
    obtain ⟨x3, r3, i3⟩ := open_nd (I := I) hO _ g3 s3
    match c, hl with
    | [c0, c1, c2, c3, c4, c5, c6, c7, c8, c9, c10, c11, c12, c13], _ =>
      simp [cells_int, cells_ints] at e0 e1
      subst e0 e1
      simp [cells_nd] at r2 r3
      refine ⟨⟨x0, x1, x2, x3⟩, .cons (.int _ _) (.cons r1 ?_), i0, i1, i2, i3⟩
      exact r2.append r3
end
/-- A slice that came in. -/
theorem opened {H : Type} {enc : TypeId × Value → H} {w : World} {spare : Nat → Bool} {held : Bool} {t : TypeId} {v : Value} {d : DataW H} {p : List MemPlace} (h : DataW.Trod enc Try.prog w 0 spare held t v d p) : ∃ m, DataW.trod enc Try.prog w 0 spare held m t v.cells.toList = some (d, p) := h
end Go.Proofs.Ytmkjjopflncedaa.AX
end
