/- What the code of this statement does, over values that stand for data: an executor of the model's code, that it is sound, and contracts of functions: part 5. No condition is added to the statement. -/
import Derived.Test.YtpbpabadbipfdaaDoorMB4
import Derived.ChangeArms
import Derived.SizedLaws
import Derived.Test.YtpbpabadbipfdaaDoorRows
import Derived.ProofKit
import Derived.LaidMore
import Derived.OpenShut
import Derived.Stop.Joined
import Derived.Deep.Strs
import Derived.Shelf.Vars
set_option linter.unusedVariables false
set_option linter.unusedSimpArgs false
section
namespace Go.Proofs.YtpbpabadbipfdaaDoor.AX
open Go AXP
set_option maxRecDepth 100000
theorem at_eta (x : At) : At.mk x.1 x.2 = x := rfl
theorem rd_int {a : List Int} {i : Nat} (h : i < a.length) : rd .int a (i : Int) = a[i] := rd_get (t := .int) h
theorem eql_drop {α : Type} {f : α → α → Bool} {a b : List α} {i : Nat} (ha : i < a.length) (hb : i < b.length) : eql f (a.drop i) (b.drop i) = (f a[i] b[i] && eql f (a.drop (i + 1)) (b.drop (i + 1))) := by
  rw [List.drop_eq_getElem_cons ha, List.drop_eq_getElem_cons hb]; rfl
theorem eql_len {α : Type} {f : α → α → Bool} : ∀ {a b : List α}, a.length ≠ b.length → eql f a b = false
  | [], [], h => (h rfl).elim
  | [], _ :: _, _ => rfl
  | _ :: _, [], _ => rfl
  | x :: a, y :: b, h => by rw [eql, eql_len (a := a) (b := b) (by simpa using h), Bool.and_false]
/-- The rounds of such a loop. -/
theorem eql_sum {cx : Cx} {L : Loops} {n bl : Nat} {c : Code} {keep left : List (Tmp × Want)} {t : Ty} {f : den t → den t → Bool} {a b : List (den t)} {K : Ex → List AV → List Blk → Prop} (st : Nat → List AV) (hl : a.length = b.length)
    (hb : ∀ (i : Nat) (h : i < a.length) (h' : i < b.length), ∀ R : List AV → List Blk → Prop, (f a[i] b[i] = false → K .ret [.bool false] []) → (f a[i] b[i] = true → R (st (i + 1)) []) → bodyA cx L n bl c keep left (rk K R) (st i) [])
    (he : ∀ R, K (.exit 0) [.any] [] → bodyA cx L n bl c keep left (rk K R) (st a.length) [])
    (h : Br (eql f a b) (K (.exit 0) [.any] []) (K .ret [.bool false] [])) : ∃ m, roundsA cx L n bl c keep left K m (st 0) [] := by
  refine sum_for (fun i => eql f a b = eql f (a.drop i) (b.drop i)) st (fun _ => []) a.length (fun i hi hp R hR => ?_) (fun hp R => ?_) (by simp)
  · have hd := eql_drop (f := f) hi (by omega : i < b.length)
    refine hb i hi (by omega) R (fun h1 => h.no ?_) (fun h1 => hR ?_)
    · rw [hp, hd, h1, Bool.false_and]
    · rw [hp, hd, h1, Bool.true_and]
  · refine he R (h.yes ?_)
    rw [hp, List.drop_length, hl, List.drop_length]; rfl
theorem ret_false {a : Bool} (h : (!a) = true) : a = false := by simpa using h
theorem ret_true {a : Bool} (h : (!a) = false) : a = true := by simpa using h
theorem eqfAts_sum : SumOK cxEqfAts (LL Tryd.f43 [lsEqfAts]) Tryd.f43.ntmps (loopAt Tryd.f43 0).1 (loopAt Tryd.f43 0).2 lsEqfAts := by
  intro vs bs K hs
  unfold lsEqfAts at hs
  simp only at hs
  split at hs
  case h_2 => exact hs.elim
  rename_i b f a m i
  obtain ⟨rfl, ⟨_, rfl, rfl, hl, hm⟩, h⟩ := hs
  refine eql_sum (t := .attr) (fun i => [.row .attr b, .fn 44 [], .row .attr a, .int .i64 a.length, .int .i64 i]) hl (fun i hi hi' R h1 h2 => ?_) (fun R h1 => ?_) h
  · refine Eq.mpr (vcEqfAtsB a b i a.length _) ⟨fun _ => ⟨⟨by omega, by omega⟩, ⟨⟨by omega, by omega⟩, ?_⟩⟩, fun h => lt_of h hi⟩
    rw [rd_at hi, rd_at hi', wrap_succ hi hm]
    exact ⟨fun h => h1 (by simpa using h), fun h => h2 (by simpa using h)⟩
  · exact Eq.mpr (vcEqfAtsB a b a.length a.length _) ⟨fun h => not_lt_self h, fun _ => h1⟩
theorem eqfNds_sum (k : Nat) : SumOK (cxEqfNds k) (LL Tryd.f41 [lsEqfNds k]) Tryd.f41.ntmps (loopAt Tryd.f41 0).1 (loopAt Tryd.f41 0).2 (lsEqfNds k) := by
  intro vs bs K hs
  unfold lsEqfNds at hs
  simp only at hs
  split at hs
  case h_2 => exact hs.elim
  rename_i b f a m i
  obtain ⟨⟨rfl, hk⟩, ⟨_, rfl, rfl, hl, hm⟩, h⟩ := hs
  refine eql_sum (t := .node) (fun i => [.row .node b, .fn 42 [], .row .node a, .int .i64 a.length, .int .i64 i]) hl (fun i hi hi' R h1 h2 => ?_) (fun R h1 => ?_) h
  · refine Eq.mpr (vcEqfNdsB k a b i a.length _) ⟨fun _ => ⟨⟨by omega, by omega⟩, ⟨⟨by omega, by omega⟩, ?_⟩⟩, fun h => lt_of h hi⟩
    rw [rd_nd hi, rd_nd hi', wrap_succ hi hm, nd_eta, nd_eta]
    exact ⟨Nat.lt_of_lt_of_le (szNds_kids hi) (Nat.le_of_lt_succ hk), ⟨fun h => h1 (by simpa using h), fun h => h2 (by simpa using h)⟩⟩
  · exact Eq.mpr (vcEqfNdsB k a b a.length a.length _) ⟨fun h => not_lt_self h, fun _ => h1⟩
/-- Such a function's text. -/
theorem eql_fun {t : Ty} {f : den t → den t → Bool} {a b : List (den t)} {Q : List AV → List Blk → List Blk → Prop} (X : Prop) (hX : X) (hQ : Q [AV.bool (eql f a b)] [] []) : Gv (a.length ≤ maxSl) (Gv (b.length ≤ maxSl) (Br ((a.length : Int) != (b.length : Int)) (Q [AV.bool false] [] [])
    (Gv (a.length ≤ maxSl) (Rq X (Rq (a = a ∧ (a.length : Int) = a.length ∧ (0 : Int) = 0 ∧ a.length = b.length ∧ a.length ≤ maxSl) (Br (eql f a b) (Q [AV.bool true] [] []) (Q [AV.bool false] [] []))))))) := by
  refine ⟨fun h1 => ⟨fun h2 => ⟨fun h3 => ?_, fun h3 => ⟨fun _ => ⟨hX, ⟨⟨rfl, rfl, rfl, ?_, h1⟩, ⟨fun h4 => ?_, fun h4 => ?_⟩⟩⟩⟩⟩⟩⟩
  · rw [eql_len (fun e => by simp [e] at h3)] at hQ; exact hQ
  · have h3 : (a.length : Int) = b.length := by simpa using h3
    omega
  · rw [h4] at hQ; exact hQ
  · rw [h4] at hQ; exact hQ
theorem atEq_holds : Holds 44 conAtEq := conP_holds fun a b => by
  refine fun_meets0 tok0 [] (by kernel_rfl) (by kernel_rfl) fun hpre => Eq.mpr (vcAtEqF a b _) (qfin rfl rfl rfl rfl)
theorem eqfAts_holds : Holds 43 conEqfAts := conP_holds fun a b _ => by
  refine fun_meets1 (AllH.tok (.cons atEq_holds (by kernel_rfl) .nil)) [] lsEqfAts (by kernel_rfl) (by kernel_rfl) eqfAts_sum fun hpre => Eq.mpr (vcEqfAtsF a b _) ?_
  exact eql_fun (t := .attr) (f := eqAt) (a := a) (b := b) (Q := FinQ _) _ rfl (qfin rfl rfl rfl rfl)
theorem same1_of {k : Nat} (h : Holds 20 (conSameLt k)) : Holds 42 (conSame1 k) := conP_holds fun a b => by
  refine fun_meets0 (AllH.tok (.cons eqfAts_holds (by kernel_rfl) (.cons h (by kernel_rfl) .nil))) [] (by kernel_rfl) (by kernel_rfl) fun hpre => Eq.mpr (vcSame1F k a b _) ?_
  have e := eqNd_eq a b
  rw [eqNds_eql] at e
  refine ⟨fun h1 => ⟨fun h2 => ⟨fun h3 => ⟨fun h4 => ⟨fun h5 => ⟨hpre _ rfl, qfin rfl ?_ rfl rfl⟩, fun h5 => qfin rfl ?_ rfl rfl⟩, fun h4 => qfin rfl ?_ rfl rfl⟩, fun h3 => qfin rfl ?_ rfl rfl⟩, fun h2 => qfin rfl ?_ rfl rfl⟩, fun h1 => qfin rfl ?_ rfl rfl⟩ <;>
  · show [AV.bool _] = [AV.bool _]
    rw [e]
    simp only [*, Bool.true_and, Bool.false_and, Bool.and_false]
theorem eqfNds_of {k : Nat} (h : Holds 42 (conSame1 k)) : Holds 41 (conEqfNds k) := conP_holds fun a b _ => by
  refine fun_meets1 (AllH.tok (.cons h (by kernel_rfl) .nil)) [] (lsEqfNds k) (by kernel_rfl) (by kernel_rfl) (eqfNds_sum k) fun hpre => Eq.mpr (vcEqfNdsF k a b _) ?_
  exact eql_fun (t := .node) (f := eqNd) (a := a) (b := b) (Q := FinQ _) _ ⟨rfl, hpre _ rfl⟩ (qfin rfl rfl rfl rfl)
theorem same_lt : ∀ k, Holds 20 (conSameLt k)
  | 0 => conP_holds fun a b F I w vals _ _ hpre => absurd (hpre _ rfl) (Nat.not_lt_zero _)
  | k + 1 => conP_holds fun a b => by
    refine fun_meets0 (AllH.tok (.cons (eqfNds_of (same1_of (same_lt k))) (by kernel_rfl) .nil)) [] (by kernel_rfl) (by kernel_rfl) fun hpre => Eq.mpr (vcSameF k a b _) ⟨hpre _ rfl, qfin rfl rfl rfl rfl⟩
theorem same_holds : Holds 20 conSame := conP_holds fun a b => 
  Meets.nopre (ans := { pre := some (szNds a < szNds a + 1), res := .bool (eql eqNd a b) }) (same_lt (szNds a + 1) [.row .node a, .row .node b] [] _ rfl) (fun p hp => by injection hp with hp; subst hp; exact Nat.lt_succ_self _)
end Go.Proofs.YtpbpabadbipfdaaDoor.AX
end
section
namespace Go.Proofs.YtpbpabadbipfdaaDoor.AXP
open Go Go.Proofs.YtpbpabadbipfdaaDoor.AX
def nd8 : Nd := ⟨2, 0, ⟨#[]⟩, [], ⟨#[97]⟩, []⟩
def begB (a b : ByteArray) : Bool := decide ((a.size : Int) ≥ b.size) && eqS (a.extract 0 b.size) b
end Go.Proofs.YtpbpabadbipfdaaDoor.AXP
namespace Go.Proofs.YtpbpabadbipfdaaDoor.AX
open Go AXP
noncomputable def cxT8 : Cx := cxT (tabLook [(17, conByts), (18, conRead), (20, conSame), (11, conCou), (15, conWor)])
def conT8 : Con := conP [] { res := .bool true }
noncomputable def cxLg8 : Cx := cxT (tabLook [(24, conLarge)])
def conLg8 : Con := conP [.row .node] fun (l : List Nd) => { res := .bool (largeM 1200 l) }
def conBeg : Con := conP [.str, .str] fun (a b : ByteArray) => { res := .bool (begB a b) }
noncomputable def cxBk : Cx := cxT (tabLook [(7, conLg8), (8, conT8), (17, conByts), (18, conRead), (19, conNodes)])
def conTreeBack : Con := conP [.row .node, .str] fun (_ : List Nd) (_ : ByteArray) => { res := .bool true }
noncomputable def cxAp : Cx := cxT (tabLook [(7, conLg8), (8, conT8), (17, conByts), (20, conSame), (19, conNodes), (21, conBeg)])
def conTreeApart : Con := conP [.row .node, .row .node] fun (_ _ : List Nd) => { res := .bool true }
end Go.Proofs.YtpbpabadbipfdaaDoor.AX
end
section
namespace Go.Proofs.YtpbpabadbipfdaaDoor.AX
open Go AXP
set_option maxRecDepth 100000
theorem vcT8F (Q : List AV → List Blk → List Blk → Prop) : (funA cxT8 (LL Tryd.f8 []) Tryd.f8 [] [] [] Q) = (
Rq (fineNds [Nd.mk (2 : Int) (0 : Int) (ByteArray.mk (Array.mk [])) [] (ByteArray.mk (Array.mk [(97 : UInt8)])) []])
  (Rq
    (rdPre
      (bytS [Nd.mk (2 : Int) (0 : Int) (ByteArray.mk (Array.mk [])) [] (ByteArray.mk (Array.mk [(97 : UInt8)])) []]))
    (Br true
      (Br true
        (Br
          (eqS
            (bytS
              [Nd.mk (2 : Int) (0 : Int) (ByteArray.mk (Array.mk [])) [] (ByteArray.mk (Array.mk [(97 : UInt8)])) []])
            (ByteArray.mk
              (Array.mk [(1 : UInt8), (1 : UInt8), (1 : UInt8), (2 : UInt8), (1 : UInt8), (1 : UInt8), (97 : UInt8)])))
          (Br
            (eql eqNd
              [Nd.mk (2 : Int) (0 : Int) (ByteArray.mk (Array.mk [])) [] (ByteArray.mk (Array.mk [(97 : UInt8)])) []]
              (rdL
                (bytS
                  [Nd.mk (2 : Int) (0 : Int) (ByteArray.mk (Array.mk [])) [] (ByteArray.mk (Array.mk [(97 : UInt8)]))
                      []])))
            (Rq
              (cntNds
                  [Nd.mk (2 : Int) (0 : Int) (ByteArray.mk (Array.mk [])) [] (ByteArray.mk (Array.mk [(97 : UInt8)]))
                      []] <
                (1000000 : Nat))
              (Br true
                (Rq
                  (fineNds
                    [Nd.mk (2 : Int) (0 : Int) (ByteArray.mk (Array.mk [])) [] (ByteArray.mk (Array.mk [(97 : UInt8)]))
                        []])
                  (Q
                    [AV.bool
                        (eqS
                          (wdNds
                            [Nd.mk (2 : Int) (0 : Int) (ByteArray.mk (Array.mk [])) []
                                (ByteArray.mk (Array.mk [(97 : UInt8)])) []]
                            (ByteArray.mk (Array.mk [])))
                          (ByteArray.mk (Array.mk [(97 : UInt8)])))]
                    [] []))
                (Q [AV.bool false] [] [])))
            (Q [AV.bool false] [] []))
          (Q [AV.bool false] [] []))
        (Q [AV.bool false] [] []))
      (Q [AV.bool false] [] [])))) := by kernel_rfl
theorem vcLg8F (l : List Nd) (Q : List AV → List Blk → List Blk → Prop) : (funA cxLg8 (LL Tryd.f7 []) Tryd.f7 [.row .node l] [] [] Q) = (
Rq ((0 : Int) ≤ (1 : Int) ∧ (1 : Int) ≤ (61 : Int) ∧ (-354 : Int) ≤ (1200 : Int) ∧ (1200 : Int) ≤ (2000 : Int))
  (Q [AV.bool (lgB (1 : Int) l (1200 : Int))] [] [])) := by kernel_rfl
theorem vcBegF (a b : ByteArray) (Q : List AV → List Blk → List Blk → Prop) : (funA cx0 (LL Tryd.f21 []) Tryd.f21 [.str a, .str b] [] [] Q) = (
Br (decide ((↑a.size : Int) ≥ (↑b.size : Int)))
  (Rq ((0 : Int) ≤ (0 : Int) ∧ (0 : Int) ≤ (↑b.size : Int) ∧ (↑b.size : Int) ≤ (↑a.size : Int))
    (Gv (a.size ≤ maxSl)
      (Gv (b.size ≤ maxSl)
        (Gv (b.size ≤ maxSl) (Q [AV.bool (eqS (a.extract (Int.toNat (0 : Int)) (↑b.size : Int).toNat) b)] [] [])))))
  (Gv (a.size ≤ maxSl) (Gv (b.size ≤ maxSl) (Q [AV.bool false] [] [])))) := by kernel_rfl
theorem vcTBackF (l : List Nd) (b : ByteArray) (Q : List AV → List Blk → List Blk → Prop) : (funA cxBk (LL Tryd.f4 []) Tryd.f4 [.row .node l, .str b] [] [] Q) = (
Br (largeM (1200 : Int) l) (Q [AV.bool true] [] [])
  (Gv (b.size ≤ maxSl)
    (Br (decide ((↑b.size : Int) > (3000 : Int))) (Q [AV.bool true] [] [])
      (Rq (fineNds l)
        (Br (bytE l == (0 : Int))
          (Rq (rdPre (bytS l))
            (Br (rdE (bytS l) != (0 : Int)) (Q [AV.bool false] [] [])
              (Br (!eql eqNd l (rdL (bytS l))) (Q [AV.bool false] [] [])
                (Rq (rdPre b)
                  (Br (rdE b == (0 : Int))
                    (Rq (fineNds (rdL b))
                      (Br (bytE (rdL b) != (0 : Int)) (Q [AV.bool false] [] [])
                        (Br (!eqS (bytS (rdL b)) b) (Q [AV.bool false] [] []) (Q [AV.bool true] [] []))))
                    (Q [AV.bool true] [] []))))))
          (Rq (rdPre b)
            (Br (rdE b == (0 : Int))
              (Rq (fineNds (rdL b))
                (Br (bytE (rdL b) != (0 : Int)) (Q [AV.bool false] [] [])
                  (Br (!eqS (bytS (rdL b)) b) (Q [AV.bool false] [] []) (Q [AV.bool true] [] []))))
              (Q [AV.bool true] [] [])))))))) := by kernel_rfl
theorem vcTApartF (a b : List Nd) (Q : List AV → List Blk → List Blk → Prop) : (funA cxAp (LL Tryd.f5 []) Tryd.f5 [.row .node a, .row .node b] [] [] Q) = (
Br (largeM (1200 : Int) a) (Q [AV.bool true] [] [])
  (Br (largeM (1200 : Int) b) (Q [AV.bool true] [] [])
    (Br (!eql eqNd a b == eql eqNd a b) (Q [AV.bool false] [] [])
      (Rq (fineNds a)
        (Rq (fineNds b)
          (Br (bytE a != (0 : Int)) (Q [AV.bool true] [] [])
            (Br (bytE b != (0 : Int)) (Q [AV.bool true] [] [])
              (Br (begB (bytS a) (bytS b))
                (Br (true == eql eqNd a b) (Q [AV.bool true] [] []) (Q [AV.bool false] [] []))
                (Br (begB (bytS b) (bytS a) == eql eqNd a b) (Q [AV.bool true] [] []) (Q [AV.bool false] [] [])))))))))) := by kernel_rfl
end Go.Proofs.YtpbpabadbipfdaaDoor.AX
end
section
namespace Go.Proofs.YtpbpabadbipfdaaDoor.AXP
open Go Go.Proofs.YtpbpabadbipfdaaDoor.AX
theorem fine8 : fineNds [nd8] := by
  refine ⟨by decide, ?_⟩
  unfold nd8
  rw [bndNds, bndNd, bndNds]
  exact ⟨⟨⟨by decide, by decide, by decide, fun x hx => (nomatch hx)⟩, trivial⟩, trivial⟩
theorem bytE8 : bytE [nd8] = 0 := by decide +kernel
theorem bytS8 : bytS [nd8] = ⟨#[1, 1, 1, 2, 1, 1, 97]⟩ := by
  rw [bytS_eq bytE8]; decide +kernel
theorem pre_bytes {l : List Nd} (hf : fineNds l) (h : bytE l = 0) : rdPre (bytS l) := fun _ _ => by rw [read_bytes h]; exact hf
theorem pre_small {b : ByteArray} (h : b.size ≤ 3000) : rdPre b := fun q _ => rd_fine h q
theorem eql_refl (l : List Nd) : eql eqNd l l = true := eql_self eqNd_self l
theorem beg_iff {a b : ByteArray} (h : begB a b = true) : ∃ t, kb a = kb b ++ t := by
  unfold begB at h
  rw [Bool.and_eq_true, decide_eq_true_eq] at h
  have e := congrArg kb (eqS_iff.1 h.2)
  rw [kb_ext, List.drop_zero] at e
  exact ⟨(kb a).drop b.size, by rw [← e, List.take_append_drop]⟩
theorem beg_self (a : ByteArray) : begB a a = true := by
  unfold begB
  rw [decide_eq_true (Int.le_refl _), Bool.true_and]
  refine eqS_iff.2 (kb_inj ?_)
  rw [kb_ext, List.drop_zero, List.take_of_length_le (by rw [kb_size]; exact Nat.le_refl _)]
end Go.Proofs.YtpbpabadbipfdaaDoor.AXP
namespace Go.Proofs.YtpbpabadbipfdaaDoor.AX
open Go AXP
set_option maxRecDepth 100000
theorem t8_holds : Holds 8 conT8 := conP_holds <| by
  refine fun_meets0 (AllH.tok (.cons byts_holds (by kernel_rfl) (.cons read_holds (by kernel_rfl) (.cons same_holds (by kernel_rfl) (.cons cou_holds (by kernel_rfl) (.cons wor_holds (by kernel_rfl) .nil)))))) [] (by kernel_rfl) (by kernel_rfl) fun _ => Eq.mpr (vcT8F _) ?_
  show Rq (fineNds [nd8]) (Rq (rdPre (bytS [nd8])) (Br true (Br true (Br (eqS (bytS [nd8]) ⟨#[1, 1, 1, 2, 1, 1, 97]⟩) (Br (eql eqNd [nd8] (rdL (bytS [nd8]))) (Rq (cntNds [nd8] < 1000000) (Br true (Rq (fineNds [nd8]) _) _)) _) _) _) _))
  refine Rq.mk fine8 (Rq.mk (pre_bytes fine8 bytE8) ⟨fun _ => ⟨fun _ => ⟨fun _ => ⟨fun _ => Rq.mk fine8.1 ⟨fun _ => Rq.mk fine8 (qfin rfl ?_ rfl rfl), fun h => absurd h (by decide)⟩, fun h => ?_⟩, fun h => ?_⟩, fun h => absurd h (by decide)⟩, fun h => absurd h (by decide)⟩)
  · have : eqS (wdNds [nd8] ⟨#[]⟩) ⟨#[97]⟩ = true := by decide +kernel
    exact congrArg (fun b => [AV.bool b]) this
  · rw [(read_bytes_ok bytE8).1, eql_refl] at h; cases h
  · rw [bytS8] at h
    exact absurd h (by decide +kernel)
theorem lg8_holds : Holds 7 conLg8 := conP_holds fun l => by
  exact fun_meets0 (AllH.tok (.cons large_holds (by kernel_rfl) .nil)) [] (by kernel_rfl) (by kernel_rfl) fun hpre => Eq.mpr (vcLg8F l _) ⟨by decide, qfin rfl rfl rfl rfl⟩
theorem beg_holds : Holds 21 conBeg := conP_holds fun a b => by
  rcases (show ∃ w : ByteArray, w = a from ⟨_, rfl⟩) with ⟨a, rfl⟩
  rcases (show ∃ w : ByteArray, w = b from ⟨_, rfl⟩) with ⟨b, rfl⟩
  refine fun_meets0 tok0 [] (by kernel_rfl) (by kernel_rfl) fun _ => Eq.mpr (vcBegF a b _) ?_
  refine ⟨fun h => Rq.mk ⟨by omega, by omega, by have := of_decide_eq_true h; omega⟩ ⟨fun _ => ⟨fun _ => ⟨fun _ => qfin rfl ?_ rfl rfl⟩⟩⟩, fun h => ⟨fun _ => ⟨fun _ => qfin rfl ?_ rfl rfl⟩⟩⟩
  · show _ = [AV.bool (begB a b)]
    unfold begB
    rw [h, Bool.true_and, Int.toNat_natCast]; rfl
  · show _ = [AV.bool (begB a b)]
    unfold begB
    rw [h]; rfl
theorem treeBack_ax : Holds 4 conTreeBack := conP_holds fun l b => by
  rcases (show ∃ w : List Nd, w = l from ⟨_, rfl⟩) with ⟨l, rfl⟩
  rcases (show ∃ w : ByteArray, w = b from ⟨_, rfl⟩) with ⟨b, rfl⟩
  refine fun_meets0 (AllH.tok (.cons lg8_holds (by kernel_rfl) (.cons t8_holds (by kernel_rfl) (.cons byts_holds (by kernel_rfl) (.cons read_holds (by kernel_rfl) (.cons nodes_holds (by kernel_rfl) .nil)))))) [] (by kernel_rfl) (by kernel_rfl) fun _ => Eq.mpr (vcTBackF l b _) ?_
  refine ⟨fun _ => qfin rfl rfl rfl rfl, fun h1 => ⟨fun _ => ⟨fun _ => qfin rfl rfl rfl rfl, fun h2 => ?_⟩⟩⟩
  have hf := fine_of_large (by decide) (by decide) h1
  have hb : b.size ≤ 3000 := by have := of_decide_eq_false h2; omega
  have tail : Rq (rdPre b) (Br (rdE b == 0) (Rq (fineNds (rdL b)) (Br (bytE (rdL b) != 0) (FinQ { res := .bool true } [AV.bool false] [] []) (Br (!eqS (bytS (rdL b)) b) (FinQ { res := .bool true } [AV.bool false] [] []) (FinQ { res := .bool true } [AV.bool true] [] [])))) (FinQ { res := .bool true } [AV.bool true] [] [])) := by
    refine Rq.mk (pre_small hb) ⟨fun h3 => ?_, fun _ => qfin rfl rfl rfl rfl⟩
    have h3 : rdE b = 0 := by simpa using h3
    obtain ⟨g1, g2, g3⟩ := bytes_read hb h3
    rw [g2, g3, eqS_iff.2 rfl]
    exact Rq.mk g1 ⟨fun h => absurd h (by decide), fun _ => ⟨fun h => absurd h (by decide), fun _ => qfin rfl rfl rfl rfl⟩⟩
  refine Rq.mk hf ⟨fun h3 => ?_, fun _ => tail⟩
  have h3 : bytE l = 0 := by simpa using h3
  obtain ⟨g1, g2⟩ := read_bytes_ok h3
  rw [g1, g2, eql_refl]
  exact Rq.mk (pre_bytes hf h3) ⟨fun h => absurd h (by decide), fun _ => ⟨fun h => absurd h (by decide), fun _ => tail⟩⟩
theorem treeApart_ax : Holds 5 conTreeApart := conP_holds fun a b => by
  rcases (show ∃ w : List Nd, w = a from ⟨_, rfl⟩) with ⟨a, rfl⟩
  rcases (show ∃ w : List Nd, w = b from ⟨_, rfl⟩) with ⟨b, rfl⟩
  refine fun_meets0 (AllH.tok (.cons lg8_holds (by kernel_rfl) (.cons t8_holds (by kernel_rfl) (.cons byts_holds (by kernel_rfl) (.cons same_holds (by kernel_rfl) (.cons nodes_holds (by kernel_rfl) (.cons beg_holds (by kernel_rfl) .nil))))))) [] (by kernel_rfl) (by kernel_rfl) fun _ => Eq.mpr (vcTApartF a b _) ?_
  refine ⟨fun _ => qfin rfl rfl rfl rfl, fun h1 => ⟨fun _ => qfin rfl rfl rfl rfl, fun h2 => ⟨fun h => ?_, fun _ => ?_⟩⟩⟩
  · cases hq : eql eqNd a b <;> rw [hq] at h <;> exact absurd h (by decide)
  refine Rq.mk (fine_of_large (by decide) (by decide) h1) (Rq.mk (fine_of_large (by decide) (by decide) h2) ⟨fun _ => qfin rfl rfl rfl rfl, fun h3 => ⟨fun _ => qfin rfl rfl rfl rfl, fun h4 => ?_⟩⟩)
  have h3 : bytE a = 0 := by simpa using h3
  have h4 : bytE b = 0 := by simpa using h4
  refine ⟨fun h5 => ?_, fun h5 => ?_⟩
  · obtain ⟨t, ht⟩ := beg_iff h5
    obtain rfl := bytes_pre h3 h4 ht
    rw [eql_refl]
    exact ⟨fun _ => qfin rfl rfl rfl rfl, fun h => absurd h (by decide)⟩
  · have ne : a ≠ b := fun e => by subst e; rw [beg_self] at h5; cases h5
    have e1 : eql eqNd a b = false := by
      cases hq : eql eqNd a b with
      | false => rfl
      | true => exact absurd ((eql_iff eqNd_iff).1 hq) ne
    have e2 : begB (bytS b) (bytS a) = false := by
      cases hq : begB (bytS b) (bytS a) with
      | false => rfl
      | true =>
        obtain ⟨t, ht⟩ := beg_iff hq
        exact absurd (bytes_pre h4 h3 ht).symm ne
    rw [e1, e2]
    exact ⟨fun _ => qfin rfl rfl rfl rfl, fun h => absurd h (by decide)⟩
end Go.Proofs.YtpbpabadbipfdaaDoor.AX
end
section
namespace Go.Proofs.YtpbpabadbipfdaaDoor.AXP
open Go Go.Proofs.YtpbpabadbipfdaaDoor.AX
def inI (n : Int) : Prop := -9223372036854775808 ≤ n ∧ n < 9223372036854775808
mutual
def rngNd : Nd → Prop
  | ⟨k, s, _, _, _, c⟩ => inI k ∧ inI s ∧ rngNds c
def rngNds : List Nd → Prop
  | [] => True
  | n :: l => rngNd n ∧ rngNds l
end
def rngEd (x : Ed) : Prop := inI x.what ∧ (∀ n ∈ x.way, inI n) ∧ rngNd x.old ∧ rngNd x.new
def rngEds (s : List Ed) : Prop := ∀ x ∈ s, rngEd x
theorem rngNds_of : ∀ {l : List Nd}, (∀ x ∈ l, rngNd x) → rngNds l
  | [], _ => by rw [rngNds]; trivial
  | x :: l, h => by rw [rngNds]; exact ⟨h x (.head _), rngNds_of fun y hy => h y (.tail _ hy)⟩
end Go.Proofs.YtpbpabadbipfdaaDoor.AXP
end
section
namespace Go.Proofs.YtpbpabadbipfdaaDoor.AX
open Go Go.RowKit AXP
theorem list_of {α : Type} {Q : Nat → α → Prop} : ∀ n : Nat, (∀ i, i < n → ∃ x, Q i x) → ∃ l : List α, l.length = n ∧ ∀ i x, l[i]? = some x → Q i x
  | 0, _ => ⟨[], rfl, fun i x h => by simp at h⟩
  | n + 1, h => by
    obtain ⟨l, hl, hq⟩ := list_of n fun i hi => h i (by omega)
    obtain ⟨x, hx⟩ := h n (by omega)
    refine ⟨l ++ [x], by rw [List.length_append, hl]; rfl, fun i y hy => ?_⟩
    rcases Nat.lt_or_ge i n with z | z
    · rw [List.getElem?_append_left (by omega)] at hy; exact hq i y hy
    · rw [List.getElem?_append_right (by omega), hl] at hy
      have : i - n = 0 := by
        rcases Nat.eq_zero_or_pos (i - n) with w | w
        · exact w
        · rw [List.getElem?_eq_none (by simp only [List.length_cons, List.length_nil]; omega)] at hy; cases hy
      rw [this] at hy
      obtain rfl : x = y := by simpa using hy
      obtain rfl : i = n := by omega
      exact hx
theorem mapM_spec {α : Type} (f : Nat → Option α) : ∀ (l : List Nat) (cs : List α), l.mapM f = some cs → cs.length = l.length ∧ ∀ (j : Nat) (u : α), cs[j]? = some u → ∃ i, l[j]? = some i ∧ f i = some u
  | [], cs, h => by simp at h; subst h; exact ⟨rfl, fun j u h => by simp at h⟩
  | i :: l, cs, h => by
    simp only [List.mapM_cons, Option.bind_eq_bind, Option.bind_eq_some_iff, Option.pure_def, Option.some.injEq] at h
    obtain ⟨x, hx, ys, hy, rfl⟩ := h
    obtain ⟨h1, h2⟩ := mapM_spec f l ys hy
    refine ⟨by simp [h1], fun j u hu => ?_⟩
    cases j with
    | zero => simp at hu; subst hu; exact ⟨i, rfl, hx⟩
    | succ j => simpa using h2 j u (by simpa using hu)
theorem cells_spec {w : World} {base n : Nat} {a : Addr} {cs : List Value} (h : w.cells? base a n = some cs) : cs.length = n ∧ ∀ j u, cs[j]? = some u → w.cell? (a.add j) = some u := by
  unfold World.cells? at h
  split at h
  · obtain ⟨h1, h2⟩ := mapM_spec _ _ _ h
    refine ⟨by simpa using h1, fun j u hu => ?_⟩
    obtain ⟨i, hi, hf⟩ := h2 j u hu
    obtain ⟨hlt, e⟩ := List.getElem?_eq_some_iff.1 hi
    simp at e
    subst e
    exact hf
  · cases h
theorem spot_of {w : World} {a : Addr} {v : Value} (h : w.cell? a = some v) : a.spot = none := by
  unfold World.cell? at h
  split at h
  · split at h
    · cases h
    · rename_i hs; simpa using hs
  · cases h
section
variable {H : Type} {enc : TypeId × Value → H} {w : World} {base : Nat} {spare : Nat → Bool} {held : Bool} {O : Nat → Prop} {I : Im}
def Small (t : TypeId) (d : DataW H) : Prop := ∀ n ∈ d.weights Tryd.prog t, n ≤ reachBytes
theorem small_all {e : TypeId} : ∀ {ds : List (DataW H)} {i : Nat} {d : DataW H}, ds[i]? = some d → ∀ n ∈ d.weights Tryd.prog e, n ∈ DataW.weightsAll Tryd.prog e ds
  | [], _, _, h, _, _ => by simp at h
  | x :: ds, 0, d, h, n, hn => by simp at h; subst h; rw [DataW.weightsAll]; exact List.mem_append.2 (.inl hn)
  | x :: ds, i + 1, d, h, n, hn => by rw [DataW.weightsAll]; exact List.mem_append.2 (.inr (small_all (by simpa using h) n hn))
theorem open_row {t : Ty} (Pd : den t → Prop) {e sl : TypeId} (hu : Tryd.prog.underlying sl = some (.slice e)) (hc : Tryd.prog.cellsOf e = width t) (hb : 1 ≤ Tryd.prog.bytesOf e) (hO : ∀ b, ¬ O b)
    {m : Nat} {cs : List Value} {y : DataW H × List MemPlace} (h : DataW.trod enc Tryd.prog w base spare held m sl cs = some y) (hs : Small sl y.1)
    (hel : ∀ (n : Nat) (c : List Value) (z : DataW H × List MemPlace), n < m → c.length = width t → DataW.trod enc Tryd.prog w base spare held n e c = some z → Small e z.1 → ∃ x : den t, All2 (LeafR w O I) c (leaves t x) ∧ Pd x) :
    ∃ (v : Value) (l : List (den t)), cs = [v] ∧ LeafR w O I v (.row t l) ∧ ∀ x ∈ l, Pd x := by
  rcases DataW.trod_slice hu h with ⟨rfl, _⟩ | ⟨a, len, cap, elems, rest, n, rfl, rfl, rfl, _, hl, _, hlen, hels, _, _⟩
  · exact ⟨_, [], rfl, .row0 t, fun x hx => nomatch hx⟩
  · have hW := width_pos t
    rw [hc] at hels
    have hsz : len ≤ maxSl := by
      have h1 := hs ((((elems.map (·.1)).length + (rest.map (·.1)).length) * Tryd.prog.bytesOf e)) (by simp only [DataW.weights, hu]; exact .head _)
      simp only [List.length_map] at h1
      have : len ≤ (elems.length + rest.length) * Tryd.prog.bytesOf e := by
        rw [hlen]; exact Nat.le_trans (Nat.le_add_right _ _) (Nat.le_mul_of_pos_right _ hb)
      unfold reachBytes at h1
      unfold maxSl
      omega
    obtain ⟨l, hll, hq⟩ := list_of (Q := fun i (x : den t) => ∃ c : List Value, c.length = width t ∧ (All2 (LeafR w O I) c (leaves t x) ∧ Pd x) ∧ ∀ j u, c[j]? = some u → w.cell? (a.add (i * width t + j)) = some u) len fun i hi => by
      have h1 := hels i hi
      obtain ⟨z, hz⟩ : ∃ z, elems[i]? = some z := ⟨_, List.getElem?_eq_getElem (by omega)⟩
      rw [hz] at h1
      obtain ⟨c, hcc, ht⟩ := Option.bind_eq_some_iff.1 h1
      obtain ⟨g1, g2⟩ := cells_spec hcc
      have hsz' : Small e z.1 := fun k hk => hs k (by
        simp only [DataW.weights, hu]
        exact .tail _ (List.mem_append.2 (.inl (small_all (i := i) (by rw [List.getElem?_map, hz]; rfl) k hk))))
      obtain ⟨x, hx⟩ := hel n c z (Nat.lt_succ_self _) g1 ht hsz'
      refine ⟨x, c, g1, hx, fun j u hu' => ?_⟩
      have := g2 j u hu'
      unfold Addr.add at this ⊢
      by_cases hj : j = 0
      · subst hj; simpa using this
      · rw [if_neg hj] at this
        rw [if_neg (by omega)]
        split at this
        · rename_i h0; rw [h0, Nat.zero_add]; exact this
        · simpa [Nat.add_assoc] using this
    refine ⟨_, l, rfl, ?_, fun x hx => by obtain ⟨i, hi, rfl⟩ := List.getElem_of_mem hx; obtain ⟨_, _, k2, _⟩ := hq i l[i] (List.getElem?_eq_getElem hi); exact k2.2⟩
    rcases Nat.eq_zero_or_pos len with h0 | h0
    · have : l = [] := List.eq_nil_of_length_eq_zero (by omega)
      subst this
      subst h0
      exact .rowz a cap t
    · have hcell : ∀ j, j < len * width t → ∃ u, w.cell? (a.add j) = some u ∧ ∀ x, (cellsOf t l)[j]? = some x → LeafR w O I u x := fun j hj => by
        have hd : j / width t < l.length := by rw [hll]; exact Nat.div_lt_of_lt_mul (by rw [Nat.mul_comm]; exact hj)
        obtain ⟨c, k1, ⟨k2, _⟩, k3⟩ := hq (j / width t) l[j / width t] (List.getElem?_eq_getElem hd)
        have hm : j % width t < c.length := by rw [k1]; exact Nat.mod_lt _ hW
        have h3 := k3 (j % width t) c[j % width t] (List.getElem?_eq_getElem hm)
        have hj' : j / width t * width t + j % width t = j := by rw [Nat.mul_comm]; exact Nat.div_add_mod j (width t)
        rw [hj'] at h3
        refine ⟨_, h3, fun x hx => ?_⟩
        rw [cellsOf_get hd] at hx
        obtain ⟨y', hy', hr⟩ := k2.get' (List.getElem?_eq_getElem hm)
        rw [hx] at hy'; injection hy' with hy'; subst hy'; exact hr
      obtain ⟨b, off, sp⟩ := a
      obtain ⟨u0, hu0, _⟩ := hcell 0 (Nat.mul_pos h0 hW)
      have hsp : sp = none := spot_of hu0
      subst hsp
      have key := LeafR.row (w := w) (O := O) (I := I) b off cap t l ((List.range (len * width t)).map fun j => (w.cell? ⟨b, off + j, none⟩).getD (.bool false)) (fun _ => hO b) (by omega) (by omega) (fun j u hu' => ?_) (by simp only [List.length_map, List.length_range]; rw [cellsOf_length, hll]) (fun j u x hu' hx => ?_)
      · rw [hll] at key; exact key
      · simp only [List.getElem?_map, Option.map_eq_some_iff] at hu'
        obtain ⟨k, hk, rfl⟩ := hu'
        obtain ⟨hlt, e'⟩ := List.getElem?_eq_some_iff.1 hk
        simp at e' hlt
        subst e'
        obtain ⟨u1, hu1, _⟩ := hcell j hlt
        have e2 : (⟨b, off, none⟩ : Addr).add j = ⟨b, off + j, none⟩ := by unfold Addr.add; split <;> simp_all
        rw [e2] at hu1
        rw [hu1]; rfl
      · simp only [List.getElem?_map, Option.map_eq_some_iff] at hu'
        obtain ⟨k, hk, rfl⟩ := hu'
        obtain ⟨hlt, e'⟩ := List.getElem?_eq_some_iff.1 hk
        simp at e' hlt
        subst e'
        obtain ⟨u1, hu1, hr⟩ := hcell j hlt
        have e2 : (⟨b, off, none⟩ : Addr).add j = ⟨b, off + j, none⟩ := by unfold Addr.add; split <;> simp_all
        rw [e2] at hu1
        rw [hu1]
        exact hr x hx
/-- A field's reading. -/
theorem field_of {t : TypeId} {fs : Array Field} (hu : Tryd.prog.underlying t = some (.struct fs)) {m : Nat} {cs : List Value} {y : DataW H × List MemPlace} (h : DataW.trod enc Tryd.prog w base spare held m t cs = some y) (hs : Small t y.1) (i : Nat) (f : Field) (hf : fs[i]? = some f) :
    ∃ (n : Nat) (z : DataW H × List MemPlace), n < m ∧ DataW.trod enc Tryd.prog w base spare held n f.type ((cs.drop f.offset).take (Tryd.prog.cellsOf f.type)) = some z ∧ Small f.type z.1 := by
  obtain ⟨xs, n, rfl, rfl, _, hlen, hff⟩ := DataW.trod_struct hu h
  have hlt : i < xs.length := by rw [hlen]; exact (Array.getElem?_eq_some_iff.1 hf).1
  refine ⟨n, xs[i], Nat.lt_succ_self _, by rw [hff i f hf, List.getElem?_eq_getElem hlt], fun k hk => hs k ?_⟩
  simp only [DataW.weights, hu]
  refine DataW.weights_mem_each (j := i) (t := f.type) (d := xs[i].1) ?_ ?_ k hk
  · rw [List.getElem?_map, Array.getElem?_toList, hf]; rfl
  · rw [List.getElem?_map, List.getElem?_eq_getElem hlt]; rfl
theorem struct_len {t : TypeId} {fs : Array Field} (hu : Tryd.prog.underlying t = some (.struct fs)) {m : Nat} {cs : List Value} {y : DataW H × List MemPlace} (h : DataW.trod enc Tryd.prog w base spare held m t cs = some y) : cs.length = Tryd.prog.cellsOf t := by
  obtain ⟨_, _, _, _, hl, _, _⟩ := DataW.trod_struct hu h
  exact hl
theorem wf_inI {n : Int} (h : (Lit.int .i64 n).wf = true) : inI n := by
  have h : (decide (IntKind.i64.min ≤ n) && decide (n ≤ IntKind.i64.max)) = true := h
  rw [Bool.and_eq_true, decide_eq_true_eq, decide_eq_true_eq, show IntKind.i64.min = -9223372036854775808 by decide, show IntKind.i64.max = 9223372036854775807 by decide] at h
  exact ⟨h.1, by omega⟩
theorem open_int1 {m : Nat} {cs : List Value} {y : DataW H × List MemPlace} (h : DataW.trod enc Tryd.prog w base spare held m 3 cs = some y) : ∃ n, cs = [.int .i64 n] ∧ inI n := by
  obtain ⟨n, e, _, hw⟩ := DataW.trod_int Tryd.underlying3 h
  exact ⟨n, e, wf_inI hw⟩
theorem open_str1 {m : Nat} {cs : List Value} {y : DataW H × List MemPlace} (h : DataW.trod enc Tryd.prog w base spare held m 9 cs = some y) (hs : Small 9 y.1) : ∃ s : ByteArray, cs = [.string s] ∧ s.size ≤ maxSl := by
  obtain ⟨s, e, rfl, _⟩ := DataW.trod_string Tryd.underlying9 h
  refine ⟨s, e, ?_⟩
  have := hs s.data.toList.length (by simp [DataW.weights])
  rw [Array.length_toList] at this
  have h2 : s.size ≤ reachBytes := this
  unfold reachBytes at h2
  unfold maxSl
  omega
theorem cells_int : Tryd.prog.cellsOf 3 = 1 := by kernel_rfl
theorem cells_str : Tryd.prog.cellsOf 9 = 1 := by kernel_rfl
theorem cells_ints : Tryd.prog.cellsOf 85 = 1 := by kernel_rfl
theorem cells_ats : Tryd.prog.cellsOf 42 = 1 := by kernel_rfl
theorem cells_nds : Tryd.prog.cellsOf 22 = 1 := by kernel_rfl
theorem cells_at : Tryd.prog.cellsOf 66 = 2 := by kernel_rfl
theorem cells_nd : Tryd.prog.cellsOf 44 = 6 := by kernel_rfl
theorem open_ints (hO : ∀ b, ¬ O b) {m : Nat} {cs : List Value} {y : DataW H × List MemPlace} (h : DataW.trod enc Tryd.prog w base spare held m 85 cs = some y) (hs : Small 85 y.1) : ∃ (v : Value) (l : List Int), cs = [v] ∧ LeafR w O I v (.row .int l) ∧ ∀ n ∈ l, inI n :=
  open_row (t := .int) inI Tryd.underlying85 cells_int (Nat.le_of_ble_eq_true (by kernel_rfl)) hO h hs fun n c z _ _ hz _ => by
    obtain ⟨k, rfl, hk⟩ := open_int1 hz
    exact ⟨k, .cons (.int _ _) .nil, hk⟩
set_option maxRecDepth 100000
theorem open_ats (hO : ∀ b, ¬ O b) {m : Nat} {cs : List Value} {y : DataW H × List MemPlace} (h : DataW.trod enc Tryd.prog w base spare held m 42 cs = some y) (hs : Small 42 y.1) : ∃ (v : Value) (l : List At), cs = [v] ∧ LeafR w O I v (.row .attr l) ∧ ∀ x ∈ l, True :=
  open_row (t := .attr) (fun _ => True) Tryd.underlying42 cells_at (Nat.le_of_ble_eq_true (by kernel_rfl)) hO h hs fun n c z _ hl hz hsz => by
    obtain ⟨_, z0, _, g0, s0⟩ := field_of Tryd.underlying66 hz hsz 0 _ rfl
    obtain ⟨_, z1, _, g1, s1⟩ := field_of Tryd.underlying66 hz hsz 1 _ rfl
    obtain ⟨x0, e0, b0⟩ := open_str1 g0 s0
    obtain ⟨x1, e1, b1⟩ := open_str1 g1 s1
    match c, hl with
    | [c0, c1], _ =>
      simp [cells_str] at e0 e1
      subst e0 e1
      exact ⟨⟨x0, x1⟩, .cons (.str _ b0) (.cons (.str _ b1) .nil), trivial⟩
theorem open_nd (hO : ∀ b, ¬ O b) : ∀ (m : Nat) {cs : List Value} {y : DataW H × List MemPlace}, DataW.trod enc Tryd.prog w base spare held m 44 cs = some y → Small 44 y.1 → ∃ x : Nd, All2 (LeafR w O I) cs (nodeL x) ∧ rngNd x := by
  intro m
  induction m using Nat.strongRecOn with
  | ind m ih =>
    intro cs y h hs
    obtain ⟨_, z0, _, g0, s0⟩ := field_of Tryd.underlying44 h hs 0 _ rfl
    obtain ⟨_, z1, _, g1, s1⟩ := field_of Tryd.underlying44 h hs 1 _ rfl
    obtain ⟨_, z2, _, g2, s2⟩ := field_of Tryd.underlying44 h hs 2 _ rfl
    obtain ⟨_, z3, _, g3, s3⟩ := field_of Tryd.underlying44 h hs 3 _ rfl
    obtain ⟨_, z4, _, g4, s4⟩ := field_of Tryd.underlying44 h hs 4 _ rfl
    obtain ⟨n5, z5, l5, g5, s5⟩ := field_of Tryd.underlying44 h hs 5 _ rfl
    have hlen := struct_len Tryd.underlying44 h
    rw [cells_nd] at hlen
    obtain ⟨x0, e0, i0⟩ := open_int1 g0
    obtain ⟨x1, e1, i1⟩ := open_int1 g1
    obtain ⟨x2, e2, b2⟩ := open_str1 g2 s2
    obtain ⟨v3, x3, e3, r3, _⟩ := open_ats (I := I) hO g3 s3
    obtain ⟨x4, e4, b4⟩ := open_str1 g4 s4
    obtain ⟨v5, x5, e5, r5, i5⟩ := open_row (t := .node) (I := I) rngNd Tryd.underlying22 cells_nd (Nat.le_of_ble_eq_true (by kernel_rfl)) hO g5 s5 fun n c z hn _ hz hsz => ih n (by omega) hz hsz
    match cs, hlen with
    | [c0, c1, c2, c3, c4, c5], _ =>
      simp [cells_int, cells_str, cells_ats, cells_nds] at e0 e1 e2 e3 e4 e5
      subst e0 e1 e2 e3 e4 e5
      exact ⟨⟨x0, x1, x2, x3, x4, x5⟩, .cons (.int _ _) (.cons (.int _ _) (.cons (.str _ b2) (.cons r3 (.cons (.str _ b4) (.cons r5 .nil))))), by rw [rngNd]; exact ⟨i0, i1, rngNds_of i5⟩⟩
theorem open_nds (hO : ∀ b, ¬ O b) {m : Nat} {cs : List Value} {y : DataW H × List MemPlace} (h : DataW.trod enc Tryd.prog w base spare held m 22 cs = some y) (hs : Small 22 y.1) : ∃ (v : Value) (l : List Nd), cs = [v] ∧ LeafR w O I v (.row .node l) ∧ rngNds l := by
  obtain ⟨v, l, e, r, i⟩ := open_row (t := .node) (I := I) rngNd Tryd.underlying22 cells_nd (Nat.le_of_ble_eq_true (by kernel_rfl)) hO h hs fun n c z _ _ hz hsz => open_nd hO n hz hsz
  exact ⟨v, l, e, r, rngNds_of i⟩
end
/-- A slice that came in. -/
theorem opened {H : Type} {enc : TypeId × Value → H} {w : World} {spare : Nat → Bool} {held : Bool} {t : TypeId} {v : Value} {d : DataW H} {p : List MemPlace} (h : DataW.Trod enc Tryd.prog w 0 spare held t v d p) : ∃ m, DataW.trod enc Tryd.prog w 0 spare held m t v.cells.toList = some (d, p) := h
end Go.Proofs.YtpbpabadbipfdaaDoor.AX
end
section
namespace Go.Proofs.YtpbpabadbipfdaaDoor.AX
open Go Go.ChangeShapes Go.WideShapes Go.ChangeAt Go.RowKit
def encTw (a : Tw) : List Value := [.int .i64 a.a, .int .i64 a.b]
theorem take_at {α : Type} {cs e : List α} {a n i : Nat} {u : α} (h : (cs.drop a).take n = e) (hu : e[i]? = some u) : cs[a + i]? = some u := by
  subst h
  rw [List.getElem?_take] at hu
  split at hu
  · rwa [List.getElem?_drop] at hu
  · cases hu
/-- The cells of an array that reads as a list of records. -/
theorem cells_of_array {α H : Type} {enc0 : TypeId × Value → H} {P : Program} {w : World} {base : Nat} {spare : Nat → Bool} {held : Bool} {fuel : Nat} {t e : TypeId} {n sz : Nat} {cs : List Value} {p : List MemPlace} (ht : P.underlying t = some (.array n e)) (hsz : P.cellsOf e = sz)
    (encd : α → DataW H) (enc : α → List Value) (l : List α) (hl : l.length = n)
    (hone : ∀ m a c q, DataW.trod enc0 P w base spare held m e c = some (encd a, q) → c = enc a)
    (h : DataW.trod enc0 P w base spare held fuel t cs = some (.agg (l.map encd), p)) : ∀ j a, l[j]? = some a → ∀ i u, (enc a)[i]? = some u → cs[j * sz + i]? = some u := by
  obtain ⟨xs, m, _, hx, _, hxl, hel⟩ := DataW.trod_array ht h
  simp only [Prod.mk.injEq, DataW.agg.injEq] at hx
  intro j a ha i u hu
  have hj : j < n := by rw [← hl]; exact (List.getElem?_eq_some_iff.1 ha).1
  have h1 := hel j hj
  rw [hsz] at h1
  have h2 : (xs.map (·.1))[j]? = (l.map encd)[j]? := by rw [hx.1]
  rw [List.getElem?_map, List.getElem?_map, ha] at h2
  obtain ⟨⟨d, q⟩, hq, hd⟩ := Option.map_eq_some_iff.1 h2
  simp only at hd
  subst hd
  rw [hq] at h1
  exact take_at (hone _ _ _ _ h1) hu
theorem rec2 {H : Type} {enc0 : TypeId × Value → H} {w : World} {base : Nat} {spare : Nat → Bool} {held : Bool} {T : TypeId} {f0 f1 : Field} (hT : Tryd.prog.underlying T = some (.struct #[f0, f1])) (h0 : f0.type = 3 ∧ f0.offset = 0) (h1 : f1.type = 3 ∧ f1.offset = 1) (hc : Tryd.prog.cellsOf T = 2)
    (m : Nat) (a : Tw) (c : List Value) (q : List MemPlace) (h : DataW.trod enc0 Tryd.prog w base spare held m T c = some (.agg [.lit (.int .i64 a.1), .lit (.int .i64 a.2)], q)) : c = encTw a := by
  obtain ⟨y0, y1, n, hx, hl, g0, g1⟩ := trod_struct2 hT h
  have c3 : Tryd.prog.cellsOf 3 = 1 := by kernel_rfl
  rw [h0.1, h0.2, c3] at g0
  rw [h1.1, h1.2, c3] at g1
  rw [hc] at hl
  obtain ⟨x0, e0, rfl, _⟩ := DataW.trod_int Tryd.underlying3 g0
  obtain ⟨x1, e1, rfl, _⟩ := DataW.trod_int Tryd.underlying3 g1
  simp only [Prod.mk.injEq, DataW.agg.injEq, List.cons.injEq, DataW.lit.injEq, Lit.int.injEq, true_and, and_true] at hx
  match c, hl with
  | [c0, c1], _ =>
    simp at e0 e1
    subst e0 e1
    obtain ⟨⟨r0, r1⟩, _⟩ := hx
    simp [encTw, r0, r1]
/-- One variable out of the list. -/
theorem laid_mem {P : Program} {w : World} : ∀ {l : List (String × DataW Unit)} {ps : List MemPlace}, DataW.LaidVars P w l ps → ∀ n d, (n, d) ∈ l →
    ∃ g t cs fuel p, P.globalNamed n = some g ∧ (P.globals[g]?).map (·.type) = some t ∧ w.var? P n = some cs ∧ DataW.trod (fun _ => ()) P w 0 (fun _ => true) false fuel t cs.toList = some (d, p)
  | [], _, _, _, _, h => by simp at h
  | (n0, d0) :: r, ps, ⟨g, t, cs, fuel, p, q, h1, h2, h3, h4, hr, _⟩, n, d, h => by
    rcases List.mem_cons.1 h with h | h
    · obtain ⟨rfl, rfl⟩ := Prod.mk.inj h
      exact ⟨g, t, cs, fuel, p, h1, h2, h3, h4⟩
    · exact laid_mem hr n d h
theorem var_cells {W : World} {n : String} {g : Nat} {t : TypeId} {d : DataW Unit} {l : List (String × DataW Unit)} (hl : laidMet Tryd.prog l W) (hm : (n, d) ∈ l) (hg : Tryd.prog.globalNamed n = some g) (ht : (Tryd.prog.globals[g]?).map (·.type) = some t) :
    ∃ (cs : Array Value) (fuel : Nat) (p : List MemPlace), DataW.trod (fun _ => ()) Tryd.prog W 0 (fun _ => true) false fuel t cs.toList = some (d, p) ∧ ∀ i : Nat, W.cell? ⟨g, i, none⟩ = cs.toList[i]? := by
  obtain ⟨ps, hv, _, _⟩ := hl
  obtain ⟨g', t', cs, fuel, p, h1, h2, h3, h4⟩ := laid_mem hv n d hm
  obtain rfl := Option.some.inj (hg.symm.trans h1)
  obtain rfl := Option.some.inj (ht.symm.trans h2)
  exact ⟨cs, fuel, p, h4, fun i => by rw [World.var?_cell hg h3 i]; simp⟩
theorem maxlen_of {W : World} (h : W.ShapedOpen Tryd.prog) : ∃ m, W.cell? ⟨1, 0, none⟩ = some (.int .i64 m) :=
  cell_of_shapedOpen_int (t := 3) (zero := #[.int .i64 0]) h (of_decide_eq_true (by kernel_rfl)) (by kernel_rfl) rfl (by kernel_rfl) (by kernel_rfl) Tryd.underlying3
def uRows : List Tw := [⟨0, 0⟩, ⟨0, 0⟩, ⟨192, 128⟩, ⟨224, 2048⟩, ⟨240, 65536⟩]
theorem glob_of {W : World} {l : List (String × DataW Unit)} {O : Nat → Prop} (hO : ∀ b, ¬ O b) (hl : laidMet Tryd.prog l W) (m0 : ("recto/utf.rows", Rows.laid_recto_utf_rows) ∈ l) (hs : W.ShapedOpen Tryd.prog) : GOK cx0.tid W O := by
  have c58 : Tryd.prog.cellsOf 108 = 2 := by kernel_rfl
  obtain ⟨cs, fuel, p, h, hc⟩ := var_cells hl m0 (show Tryd.prog.globalNamed "recto/utf.rows" = some 0 by kernel_rfl) (show (Tryd.prog.globals[0]?).map (·.type) = some 109 by kernel_rfl)
  have r0 : ∀ j a, uRows[j]? = some a → ∀ i u, (encTw a)[i]? = some u → W.cell? ⟨0, j * 2 + i, none⟩ = some u := fun j a ha i u hu => (hc _).trans (cells_of_array Tryd.underlying109 c58 (fun a : Tw => .agg [.lit (.int .i64 a.1), .lit (.int .i64 a.2)]) encTw uRows rfl (fun m a c q => rec2 Tryd.underlying108 ⟨rfl, rfl⟩ ⟨rfl, rfl⟩ c58 m a c q) h j a ha i u hu)
  refine ⟨fun q hq => ?_, fun g hg => ?_⟩
  · have hq : q ∈ [Glo.mk 0 .two uRows] := hq
    rw [List.mem_singleton] at hq
    subst hq
    refine ⟨by kernel_rfl, hO _, World.block_lt_of_cell? W _ (r0 0 _ rfl 0 _ rfl), fun j a ha => ?_⟩
    have hj : j < (cellsOf .two uRows).length := (List.getElem?_eq_some_iff.1 ha).1
    rw [cellsOf_length] at hj
    have hd : j / width .two < uRows.length := Nat.div_lt_of_lt_mul (by rw [Nat.mul_comm]; exact hj)
    rw [cellsOf_get hd] at ha
    have e : ∀ (x : Tw) (i : Nat) (a : AV), (leaves .two x)[i]? = some a → (encTw x)[i]? = some (flatV a) := fun x i a h => by
      match i, h with
      | 0, h => cases h; rfl
      | 1, h => cases h; rfl
    have := r0 (j / 2) uRows[j / width .two] (List.getElem?_eq_getElem hd) (j % 2) (flatV a) (e _ _ _ ha)
    rw [show j / 2 * 2 + j % 2 = j by omega] at this
    exact this
  · have hg : g ∈ [1] := hg
    rw [List.mem_singleton] at hg
    subst hg
    exact ⟨hO _, maxlen_of hs⟩
end Go.Proofs.YtpbpabadbipfdaaDoor.AX
end
