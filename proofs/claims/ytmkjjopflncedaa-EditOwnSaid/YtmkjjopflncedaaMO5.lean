/- What the code of this statement does, over values that stand for data: an executor of the model's code, that it is sound, and contracts of functions: part 5. No condition is added to the statement. -/
import Derived.Test.YtmkjjopflncedaaMO4
import Derived.Test.YtmkjjopflncedaaChecked
import Derived.WalkKit
import Derived.Deep.LoopGhost
import Derived.Deep.OwnRows
import Derived.Deep.Light
import Derived.Below
import Derived.KernelRfl
set_option linter.unusedVariables false
set_option linter.unusedSimpArgs false
section
namespace Go.Proofs.Ytmkjjopflncedaa.AX
open Go AXP
set_option maxRecDepth 100000
theorem vcNone22F (Q : List AV → List Blk → List Blk → Prop) : (funA cxNone22 (LL Try.f15 []) Try.f15 [] [] [] Q) = (
Rq
  ((0 : Int) ≤ (0 : Int) ∧
    (0 : Int) ≤ (1 : Int) ∧
      (1 : Int) ≤
        (↑[Ed.mk (1 : Int) [(0 : Int)]
                  (Nd.mk (0 : Int) (0 : Int) (ByteArray.mk (Array.mk [])) [] (ByteArray.mk (Array.mk [])) [])
                  (Nd.mk (2 : Int) (0 : Int) (ByteArray.mk (Array.mk [])) [] (ByteArray.mk (Array.mk [(120 : UInt8)]))
                    []),
                Ed.mk (2 : Int) [(0 : Int)]
                  (Nd.mk (2 : Int) (0 : Int) (ByteArray.mk (Array.mk [])) [] (ByteArray.mk (Array.mk [(120 : UInt8)]))
                    [])
                  (Nd.mk (0 : Int) (0 : Int) (ByteArray.mk (Array.mk [])) [] (ByteArray.mk (Array.mk [])) [])].length :
          Int))
  (Rq
    (wtEds
        (List.drop (Int.toNat (0 : Int))
          (List.take (Int.toNat (1 : Int))
            [Ed.mk (1 : Int) [(0 : Int)]
                (Nd.mk (0 : Int) (0 : Int) (ByteArray.mk (Array.mk [])) [] (ByteArray.mk (Array.mk [])) [])
                (Nd.mk (2 : Int) (0 : Int) (ByteArray.mk (Array.mk [])) [] (ByteArray.mk (Array.mk [(120 : UInt8)]))
                  []),
              Ed.mk (2 : Int) [(0 : Int)]
                (Nd.mk (2 : Int) (0 : Int) (ByteArray.mk (Array.mk [])) [] (ByteArray.mk (Array.mk [(120 : UInt8)])) [])
                (Nd.mk (0 : Int) (0 : Int) (ByteArray.mk (Array.mk [])) [] (ByteArray.mk (Array.mk [])) [])])) ≤
      wtMx)
    (Rq
      ((2 : Nat) *
          (wtNds [] +
            wtEds
              [Ed.mk (1 : Int) [(0 : Int)]
                  (Nd.mk (0 : Int) (0 : Int) (ByteArray.mk (Array.mk [])) [] (ByteArray.mk (Array.mk [])) [])
                  (Nd.mk (2 : Int) (0 : Int) (ByteArray.mk (Array.mk [])) [] (ByteArray.mk (Array.mk [(120 : UInt8)]))
                    []),
                Ed.mk (2 : Int) [(0 : Int)]
                  (Nd.mk (2 : Int) (0 : Int) (ByteArray.mk (Array.mk [])) [] (ByteArray.mk (Array.mk [(120 : UInt8)]))
                    [])
                  (Nd.mk (0 : Int) (0 : Int) (ByteArray.mk (Array.mk [])) [] (ByteArray.mk (Array.mk [])) [])]) ≤
        wtMx)
      (Rq
        (wtEds
            [Ed.mk (1 : Int) [(0 : Int)]
                (Nd.mk (0 : Int) (0 : Int) (ByteArray.mk (Array.mk [])) [] (ByteArray.mk (Array.mk [])) [])
                (Nd.mk (2 : Int) (0 : Int) (ByteArray.mk (Array.mk [])) [] (ByteArray.mk (Array.mk [(120 : UInt8)]))
                  []),
              Ed.mk (2 : Int) [(0 : Int)]
                (Nd.mk (2 : Int) (0 : Int) (ByteArray.mk (Array.mk [])) [] (ByteArray.mk (Array.mk [(120 : UInt8)])) [])
                (Nd.mk (0 : Int) (0 : Int) (ByteArray.mk (Array.mk [])) [] (ByteArray.mk (Array.mk [])) [])] ≤
          wtMx)
        (Br true
          (Br true
            (Rq
              ((0 : Int) ≤ (0 : Int) ∧
                (0 : Int) <
                  (↑(aboutS
                          (List.drop (Int.toNat (0 : Int))
                            (List.take (Int.toNat (1 : Int))
                              [Ed.mk (1 : Int) [(0 : Int)]
                                  (Nd.mk (0 : Int) (0 : Int) (ByteArray.mk (Array.mk [])) []
                                    (ByteArray.mk (Array.mk [])) [])
                                  (Nd.mk (2 : Int) (0 : Int) (ByteArray.mk (Array.mk [])) []
                                    (ByteArray.mk (Array.mk [(120 : UInt8)])) []),
                                Ed.mk (2 : Int) [(0 : Int)]
                                  (Nd.mk (2 : Int) (0 : Int) (ByteArray.mk (Array.mk [])) []
                                    (ByteArray.mk (Array.mk [(120 : UInt8)])) [])
                                  (Nd.mk (0 : Int) (0 : Int) (ByteArray.mk (Array.mk [])) []
                                    (ByteArray.mk (Array.mk [])) [])]))).length :
                    Int))
              (Br true
                (Rq
                  ((0 : Int) ≤ (0 : Int) ∧
                    (0 : Int) <
                      (↑(aboutS
                              (List.drop (Int.toNat (0 : Int))
                                (List.take (Int.toNat (1 : Int))
                                  [Ed.mk (1 : Int) [(0 : Int)]
                                      (Nd.mk (0 : Int) (0 : Int) (ByteArray.mk (Array.mk [])) []
                                        (ByteArray.mk (Array.mk [])) [])
                                      (Nd.mk (2 : Int) (0 : Int) (ByteArray.mk (Array.mk [])) []
                                        (ByteArray.mk (Array.mk [(120 : UInt8)])) []),
                                    Ed.mk (2 : Int) [(0 : Int)]
                                      (Nd.mk (2 : Int) (0 : Int) (ByteArray.mk (Array.mk [])) []
                                        (ByteArray.mk (Array.mk [(120 : UInt8)])) [])
                                      (Nd.mk (0 : Int) (0 : Int) (ByteArray.mk (Array.mk [])) []
                                        (ByteArray.mk (Array.mk [])) [])]))).length :
                        Int))
                  (Br (eqS (ByteArray.mk (Array.mk [(120 : UInt8)])) (ByteArray.mk (Array.mk [(120 : UInt8)])))
                    (Br true
                      (Br true
                        (Rq
                          ((0 : Int) ≤ (1 : Int) ∧
                            (1 : Int) <
                              (↑(stepsR []
                                      [Ed.mk (1 : Int) [(0 : Int)]
                                          (Nd.mk (0 : Int) (0 : Int) (ByteArray.mk (Array.mk [])) []
                                            (ByteArray.mk (Array.mk [])) [])
                                          (Nd.mk (2 : Int) (0 : Int) (ByteArray.mk (Array.mk [])) []
                                            (ByteArray.mk (Array.mk [(120 : UInt8)])) []),
                                        Ed.mk (2 : Int) [(0 : Int)]
                                          (Nd.mk (2 : Int) (0 : Int) (ByteArray.mk (Array.mk [])) []
                                            (ByteArray.mk (Array.mk [(120 : UInt8)])) [])
                                          (Nd.mk (0 : Int) (0 : Int) (ByteArray.mk (Array.mk [])) []
                                            (ByteArray.mk (Array.mk [])) [])]).length :
                                Int))
                          (Gv ((0 : Nat) ≤ maxSl)
                            (Gv
                              ((aboutS
                                    (List.drop (Int.toNat (0 : Int))
                                      (List.take (Int.toNat (1 : Int))
                                        [Ed.mk (1 : Int) [(0 : Int)]
                                            (Nd.mk (0 : Int) (0 : Int) (ByteArray.mk (Array.mk [])) []
                                              (ByteArray.mk (Array.mk [])) [])
                                            (Nd.mk (2 : Int) (0 : Int) (ByteArray.mk (Array.mk [])) []
                                              (ByteArray.mk (Array.mk [(120 : UInt8)])) []),
                                          Ed.mk (2 : Int) [(0 : Int)]
                                            (Nd.mk (2 : Int) (0 : Int) (ByteArray.mk (Array.mk [])) []
                                              (ByteArray.mk (Array.mk [(120 : UInt8)])) [])
                                            (Nd.mk (0 : Int) (0 : Int) (ByteArray.mk (Array.mk [])) []
                                              (ByteArray.mk (Array.mk [])) [])]))).length ≤
                                maxSl)
                              (Gv
                                ((stepsR []
                                      [Ed.mk (1 : Int) [(0 : Int)]
                                          (Nd.mk (0 : Int) (0 : Int) (ByteArray.mk (Array.mk [])) []
                                            (ByteArray.mk (Array.mk [])) [])
                                          (Nd.mk (2 : Int) (0 : Int) (ByteArray.mk (Array.mk [])) []
                                            (ByteArray.mk (Array.mk [(120 : UInt8)])) []),
                                        Ed.mk (2 : Int) [(0 : Int)]
                                          (Nd.mk (2 : Int) (0 : Int) (ByteArray.mk (Array.mk [])) []
                                            (ByteArray.mk (Array.mk [(120 : UInt8)])) [])
                                          (Nd.mk (0 : Int) (0 : Int) (ByteArray.mk (Array.mk [])) []
                                            (ByteArray.mk (Array.mk [])) [])]).length ≤
                                  maxSl)
                                (Gv
                                  (List.length
                                      (rd Ty.nodes
                                        (stepsR []
                                          [Ed.mk (1 : Int) [(0 : Int)]
                                              (Nd.mk (0 : Int) (0 : Int) (ByteArray.mk (Array.mk [])) []
                                                (ByteArray.mk (Array.mk [])) [])
                                              (Nd.mk (2 : Int) (0 : Int) (ByteArray.mk (Array.mk [])) []
                                                (ByteArray.mk (Array.mk [(120 : UInt8)])) []),
                                            Ed.mk (2 : Int) [(0 : Int)]
                                              (Nd.mk (2 : Int) (0 : Int) (ByteArray.mk (Array.mk [])) []
                                                (ByteArray.mk (Array.mk [(120 : UInt8)])) [])
                                              (Nd.mk (0 : Int) (0 : Int) (ByteArray.mk (Array.mk [])) []
                                                (ByteArray.mk (Array.mk [])) [])])
                                        (1 : Int)) ≤
                                    maxSl)
                                  (Q [AV.bool true] [] []))))))
                        (Gv ((0 : Nat) ≤ maxSl)
                          (Gv
                            ((aboutS
                                  (List.drop (Int.toNat (0 : Int))
                                    (List.take (Int.toNat (1 : Int))
                                      [Ed.mk (1 : Int) [(0 : Int)]
                                          (Nd.mk (0 : Int) (0 : Int) (ByteArray.mk (Array.mk [])) []
                                            (ByteArray.mk (Array.mk [])) [])
                                          (Nd.mk (2 : Int) (0 : Int) (ByteArray.mk (Array.mk [])) []
                                            (ByteArray.mk (Array.mk [(120 : UInt8)])) []),
                                        Ed.mk (2 : Int) [(0 : Int)]
                                          (Nd.mk (2 : Int) (0 : Int) (ByteArray.mk (Array.mk [])) []
                                            (ByteArray.mk (Array.mk [(120 : UInt8)])) [])
                                          (Nd.mk (0 : Int) (0 : Int) (ByteArray.mk (Array.mk [])) []
                                            (ByteArray.mk (Array.mk [])) [])]))).length ≤
                              maxSl)
                            (Gv
                              ((stepsR []
                                    [Ed.mk (1 : Int) [(0 : Int)]
                                        (Nd.mk (0 : Int) (0 : Int) (ByteArray.mk (Array.mk [])) []
                                          (ByteArray.mk (Array.mk [])) [])
                                        (Nd.mk (2 : Int) (0 : Int) (ByteArray.mk (Array.mk [])) []
                                          (ByteArray.mk (Array.mk [(120 : UInt8)])) []),
                                      Ed.mk (2 : Int) [(0 : Int)]
                                        (Nd.mk (2 : Int) (0 : Int) (ByteArray.mk (Array.mk [])) []
                                          (ByteArray.mk (Array.mk [(120 : UInt8)])) [])
                                        (Nd.mk (0 : Int) (0 : Int) (ByteArray.mk (Array.mk [])) []
                                          (ByteArray.mk (Array.mk [])) [])]).length ≤
                                maxSl)
                              (Q [AV.bool false] [] [])))))
                      (Gv ((0 : Nat) ≤ maxSl)
                        (Gv
                          ((aboutS
                                (List.drop (Int.toNat (0 : Int))
                                  (List.take (Int.toNat (1 : Int))
                                    [Ed.mk (1 : Int) [(0 : Int)]
                                        (Nd.mk (0 : Int) (0 : Int) (ByteArray.mk (Array.mk [])) []
                                          (ByteArray.mk (Array.mk [])) [])
                                        (Nd.mk (2 : Int) (0 : Int) (ByteArray.mk (Array.mk [])) []
                                          (ByteArray.mk (Array.mk [(120 : UInt8)])) []),
                                      Ed.mk (2 : Int) [(0 : Int)]
                                        (Nd.mk (2 : Int) (0 : Int) (ByteArray.mk (Array.mk [])) []
                                          (ByteArray.mk (Array.mk [(120 : UInt8)])) [])
                                        (Nd.mk (0 : Int) (0 : Int) (ByteArray.mk (Array.mk [])) []
                                          (ByteArray.mk (Array.mk [])) [])]))).length ≤
                            maxSl)
                          (Q [AV.bool false] [] []))))
                    (Gv ((0 : Nat) ≤ maxSl)
                      (Gv
                        ((aboutS
                              (List.drop (Int.toNat (0 : Int))
                                (List.take (Int.toNat (1 : Int))
                                  [Ed.mk (1 : Int) [(0 : Int)]
                                      (Nd.mk (0 : Int) (0 : Int) (ByteArray.mk (Array.mk [])) []
                                        (ByteArray.mk (Array.mk [])) [])
                                      (Nd.mk (2 : Int) (0 : Int) (ByteArray.mk (Array.mk [])) []
                                        (ByteArray.mk (Array.mk [(120 : UInt8)])) []),
                                    Ed.mk (2 : Int) [(0 : Int)]
                                      (Nd.mk (2 : Int) (0 : Int) (ByteArray.mk (Array.mk [])) []
                                        (ByteArray.mk (Array.mk [(120 : UInt8)])) [])
                                      (Nd.mk (0 : Int) (0 : Int) (ByteArray.mk (Array.mk [])) []
                                        (ByteArray.mk (Array.mk [])) [])]))).length ≤
                          maxSl)
                        (Q [AV.bool false] [] [])))))
                (Gv ((0 : Nat) ≤ maxSl)
                  (Gv
                    ((aboutS
                          (List.drop (Int.toNat (0 : Int))
                            (List.take (Int.toNat (1 : Int))
                              [Ed.mk (1 : Int) [(0 : Int)]
                                  (Nd.mk (0 : Int) (0 : Int) (ByteArray.mk (Array.mk [])) []
                                    (ByteArray.mk (Array.mk [])) [])
                                  (Nd.mk (2 : Int) (0 : Int) (ByteArray.mk (Array.mk [])) []
                                    (ByteArray.mk (Array.mk [(120 : UInt8)])) []),
                                Ed.mk (2 : Int) [(0 : Int)]
                                  (Nd.mk (2 : Int) (0 : Int) (ByteArray.mk (Array.mk [])) []
                                    (ByteArray.mk (Array.mk [(120 : UInt8)])) [])
                                  (Nd.mk (0 : Int) (0 : Int) (ByteArray.mk (Array.mk [])) []
                                    (ByteArray.mk (Array.mk [])) [])]))).length ≤
                      maxSl)
                    (Q [AV.bool false] [] [])))))
            (Gv ((0 : Nat) ≤ maxSl)
              (Gv
                ((aboutS
                      (List.drop (Int.toNat (0 : Int))
                        (List.take (Int.toNat (1 : Int))
                          [Ed.mk (1 : Int) [(0 : Int)]
                              (Nd.mk (0 : Int) (0 : Int) (ByteArray.mk (Array.mk [])) [] (ByteArray.mk (Array.mk []))
                                [])
                              (Nd.mk (2 : Int) (0 : Int) (ByteArray.mk (Array.mk [])) []
                                (ByteArray.mk (Array.mk [(120 : UInt8)])) []),
                            Ed.mk (2 : Int) [(0 : Int)]
                              (Nd.mk (2 : Int) (0 : Int) (ByteArray.mk (Array.mk [])) []
                                (ByteArray.mk (Array.mk [(120 : UInt8)])) [])
                              (Nd.mk (0 : Int) (0 : Int) (ByteArray.mk (Array.mk [])) [] (ByteArray.mk (Array.mk []))
                                [])]))).length ≤
                  maxSl)
                (Q [AV.bool false] [] []))))
          (Gv ((0 : Nat) ≤ maxSl) (Q [AV.bool false] [] []))))))) := by kernel_rfl
theorem vcTwiceF (s : List Ed) (Q : List AV → List Blk → List Blk → Prop) : (funA cxTwice (LL Try.f5 []) Try.f5 [.row .edit s] [] [] Q) = (
Br (longB (50 : Int) s) (Q [AV.bool true] [] [])
  (Rq (wtEds s ≤ wtMx)
    (Br ((↑(aboutS s).length : Int) == (↑s.length : Int))
      (Rq (wtEds (aboutS s) ≤ wtMx)
        (Br (eql eqEd (aboutS (aboutS s)) s)
          (Gv ((aboutS s).length ≤ maxSl) (Gv (s.length ≤ maxSl) (Q [AV.bool true] [] [])))
          (Gv ((aboutS s).length ≤ maxSl) (Gv (s.length ≤ maxSl) (Q [AV.bool false] [] [])))))
      (Gv ((aboutS s).length ≤ maxSl) (Gv (s.length ≤ maxSl) (Q [AV.bool false] [] [])))))) := by kernel_rfl
end Go.Proofs.Ytmkjjopflncedaa.AX
end
section
namespace Go.Proofs.Ytmkjjopflncedaa.AXP
open Go Go.Proofs.Ytmkjjopflncedaa.AX
theorem eqS_self (a : ByteArray) : eqS a a = true := by unfold eqS; simp
theorem eql_self {α : Type} {f : α → α → Bool} (h : ∀ x, f x x = true) : ∀ l : List α, eql f l l = true
  | [] => rfl
  | x :: l => by rw [eql, h, eql_self h l]; rfl
theorem eqAt_self (x : At) : eqAt x x = true := by unfold eqAt; rw [eqS_self, eqS_self]; rfl
theorem eqI_self (x : Int) : eqI x x = true := by unfold eqI; simp
mutual
theorem eqNd_self : ∀ n : Nd, eqNd n n = true
  | ⟨k, s, n, a, t, c⟩ => by rw [eqNd, eqS_self, eqS_self, eql_self eqAt_self, eqNds_self c]; simp
theorem eqNds_self : ∀ l : List Nd, eqNds l l = true
  | [] => by rw [eqNds]
  | x :: l => by rw [eqNds, eqNd_self x, eqNds_self l]; rfl
end
theorem eqEd_self (x : Ed) : eqEd x x = true := by unfold eqEd; rw [eql_self eqI_self, eqNd_self, eqNd_self]; simp
theorem turn_turn (x : Ed) : turnEd (turnEd x) = x := by
  obtain ⟨w, way, o, n⟩ := x
  unfold turnEd
  simp only [Ed.mk.injEq, and_true]
  by_cases h1 : w = 1
  · subst h1; rfl
  · by_cases h2 : w = 2
    · subst h2; rfl
    · simp [h1, h2]
theorem about_about (s : List Ed) : aboutS (aboutS s) = s := by
  unfold aboutS
  rw [← List.map_reverse, List.reverse_reverse, List.map_map, show turnEd ∘ turnEd = id by funext x; exact turn_turn x, List.map_id]
theorem about_len (s : List Ed) : (aboutS s).length = s.length := by unfold aboutS; rw [List.length_map, List.length_reverse]
theorem wt_about (s : List Ed) : wtEds (aboutS s) = wtEds s := by unfold aboutS; rw [wtEds_map, wtEds_rev]
end Go.Proofs.Ytmkjjopflncedaa.AXP
namespace Go.Proofs.Ytmkjjopflncedaa.AX
open Go AXP
set_option maxRecDepth 100000
theorem none22_holds : Holds 15 conNone22 := conP_holds (ps := []) (g := { res := .bool true }) <| by
  refine fun_meets0C (AllH.tok (.cons about_holds (by kernel_rfl) (.cons steps_holds (by kernel_rfl) (.cons short_holds (by kernel_rfl) .nil)))) (coldAt 2 [2]) [] (by kernel_rfl) (by kernel_rfl) fun hpre => Eq.mpr (vcNone22F _) ?_
  repeat' first
    | exact qfin rfl rfl rfl rfl
    | refine ⟨fun _ => ?_, fun h => (Bool.noConfusion (show true = false from h) : _)⟩
    | refine ⟨fun _ => ?_, fun h => absurd (eqS_self _) (by rw [h]; decide)⟩
    | refine ⟨of_decide_eq_true (by kernel_rfl), ?_⟩
    | refine ⟨fun _ => ?_⟩
def conTwice : Con := conP [.row .edit] fun (_ : List Ed) => { res := .bool true }
theorem twice_holds : Holds 5 conTwice := conP_holds fun s => by
  refine fun_meets0 (AllH.tok (.cons lo22_holds (by kernel_rfl) (.cons about_holds (by kernel_rfl) (.cons edSame_holds (by kernel_rfl) (.cons none22_holds (by kernel_rfl) .nil))))) [] (by kernel_rfl) (by kernel_rfl) fun hpre => Eq.mpr (vcTwiceF s _) ?_
  refine ⟨fun _ => qfin rfl rfl rfl rfl, fun h => ?_⟩
  have hw : wtEds s ≤ wtMx := by have := (long_wt (by decide) h).1; unfold wtMx; omega
  refine ⟨hw, ⟨fun _ => ⟨by rw [wt_about]; exact hw, ⟨fun _ => ⟨fun _ => ⟨fun _ => qfin rfl rfl rfl rfl⟩⟩, fun h2 => ?_⟩⟩, fun h1 => ?_⟩⟩
  · rw [about_about, eql_self eqEd_self] at h2; cases h2
  · rw [about_len] at h1; simp at h1
end Go.Proofs.Ytmkjjopflncedaa.AX
end
section
namespace Go.Proofs.Ytmkjjopflncedaa.AXP
open Go Go.Proofs.Ytmkjjopflncedaa.AX
theorem eqS_iff {a b : ByteArray} : eqS a b = true ↔ a = b := by
  unfold eqS
  rw [beq_iff_eq]
  constructor
  · intro h
    have h2 : a.data.toList = b.data.toList := by
      have ha : ∀ c : ByteArray, c.toList = c.data.toList := ByteArray.toList_eq
      rw [ha, ha] at h; exact h
    cases a; cases b
    congr 1
    exact Array.toList_inj.1 h2
  · intro h; rw [h]
theorem eql_iff {α : Type} {f : α → α → Bool} (hf : ∀ x y, f x y = true ↔ x = y) : ∀ {a b : List α}, eql f a b = true ↔ a = b
  | [], [] => by simp [eql]
  | [], _ :: _ => by simp [eql]
  | _ :: _, [] => by simp [eql]
  | x :: a, y :: b => by rw [eql, Bool.and_eq_true, hf, eql_iff hf, List.cons.injEq]
theorem eqAt_iff (x y : At) : eqAt x y = true ↔ x = y := by
  obtain ⟨x1, x2⟩ := x
  obtain ⟨y1, y2⟩ := y
  unfold eqAt
  rw [Bool.and_eq_true, eqS_iff, eqS_iff]
  simp
theorem eqI_iff (x y : Int) : eqI x y = true ↔ x = y := by unfold eqI; simp
mutual
theorem eqNd_iff : ∀ (a b : Nd), eqNd a b = true ↔ a = b
  | ⟨k, s, n, a, t, c⟩, ⟨k', s', n', a', t', c'⟩ => by
    rw [eqNd]
    simp only [Bool.and_eq_true, eqS_iff, eql_iff eqAt_iff, eqNds_iff c c', Nd.mk.injEq, beq_iff_eq]
    constructor
    · rintro ⟨⟨⟨⟨⟨h1, h2⟩, h3⟩, h4⟩, h5⟩, h6⟩; exact ⟨h1, h2, h3, h5, h4, h6⟩
    · rintro ⟨h1, h2, h3, h5, h4, h6⟩; exact ⟨⟨⟨⟨⟨h1, h2⟩, h3⟩, h4⟩, h5⟩, h6⟩
theorem eqNds_iff : ∀ (a b : List Nd), eqNds a b = true ↔ a = b
  | [], [] => by rw [eqNds]; simp
  | [], _ :: _ => by simp [eqNds]
  | _ :: _, [] => by simp [eqNds]
  | x :: a, y :: b => by rw [eqNds, Bool.and_eq_true, eqNd_iff x y, eqNds_iff a b, List.cons.injEq]
end
theorem eqEd_iff (x y : Ed) : eqEd x y = true ↔ x = y := by
  obtain ⟨w, a, o, n⟩ := x
  obtain ⟨w', a', o', n'⟩ := y
  unfold eqEd
  simp only [Bool.and_eq_true, eql_iff eqI_iff, eqNd_iff, Ed.mk.injEq, beq_iff_eq]
  constructor
  · rintro ⟨⟨⟨h1, h2⟩, h3⟩, h4⟩; exact ⟨h1, h2, h3, h4⟩
  · rintro ⟨h1, h2, h3, h4⟩; exact ⟨⟨⟨h1, h2⟩, h3⟩, h4⟩
/-! #### A list at a way, turned -/
theorem inB_len {l l' : List Nd} {i : Int} (h : l'.length = l.length) : inB l' i = inB l i := by unfold inB; rw [h]
theorem steps_plug : ∀ {ws : List Int} {l xs : List Nd} (k : List Nd), stepsW l ws = some xs → stepsW (plugS l ws k) ws = some k
  | [], l, xs, k, _ => rfl
  | i :: ws, l, xs, k, h => by
    simp only [stepsW] at h
    split at h
    · rename_i hi
      obtain ⟨h1, _⟩ := getD_of hi
      rw [plugS, stepsW, inB_len (l := l) (by rw [List.length_set]), if_pos hi]
      have e : (l.set i.toNat { l.getD i.toNat default with kids := plugS (l.getD i.toNat default).kids ws k }).getD i.toNat default = { l.getD i.toNat default with kids := plugS (l.getD i.toNat default).kids ws k } := by
        rw [List.getD_eq_getElem?_getD, List.getElem?_set_self h1]; rfl
      rw [e]
      exact steps_plug k h
    · cases h
theorem plug_plug : ∀ {ws : List Int} {l xs : List Nd} (k k' : List Nd), stepsW l ws = some xs → plugS (plugS l ws k) ws k' = plugS l ws k'
  | [], l, xs, k, k', _ => rfl
  | i :: ws, l, xs, k, k', h => by
    simp only [stepsW] at h
    split at h
    · rename_i hi
      obtain ⟨h1, _⟩ := getD_of hi
      rw [plugS, plugS, plugS]
      have e : (l.set i.toNat { l.getD i.toNat default with kids := plugS (l.getD i.toNat default).kids ws k }).getD i.toNat default = { l.getD i.toNat default with kids := plugS (l.getD i.toNat default).kids ws k } := by
        rw [List.getD_eq_getElem?_getD, List.getElem?_set_self h1]; rfl
      rw [e, List.set_set]
      dsimp only
      rw [plug_plug k k' h]
    · cases h
theorem plug_self : ∀ {ws : List Int} {l xs : List Nd}, stepsW l ws = some xs → plugS l ws xs = l
  | [], l, xs, h => by injection h with h; subst h; rfl
  | i :: ws, l, xs, h => by
    simp only [stepsW] at h
    split at h
    · rename_i hi
      obtain ⟨h1, e⟩ := getD_of hi
      rw [plugS, plug_self h, e]
      have : ({ l[i.toNat] with kids := l[i.toNat].kids } : Nd) = l[i.toNat] := by cases l[i.toNat]; rfl
      rw [this, List.set_getElem_self]
    · cases h
/-- Where a way ends: the list and the place. -/
theorem at_some {l : List Nd} {way : List Int} {n : Nd} (h : atW l way = some n) : ∃ xs, way ≠ [] ∧ stepsW l way.dropLast = some xs ∧ inB xs (lastW way) = true ∧ ∃ hi : (lastW way).toNat < xs.length, n = xs[(lastW way).toNat] := by
  have h0 := h
  unfold atW at h
  split at h
  · cases h
  · rename_i hw
    cases hs : stepsW l way.dropLast with
    | none => rw [hs] at h; cases h
    | some xs =>
      rw [hs, Option.bind_some] at h
      split at h
      · rename_i hi
        injection h with h
        obtain ⟨z1, z2⟩ := getD_of hi
        exact ⟨xs, fun e => hw (by rw [e]; rfl), rfl, hi, z1, by rw [← h, z2]⟩
      · cases h
theorem at_of {l xs : List Nd} {way : List Int} (hw : way ≠ []) (hs : stepsW l way.dropLast = some xs) (hi : inB xs (lastW way) = true) (h1 : (lastW way).toNat < xs.length) : atW l way = some xs[(lastW way).toNat] := by
  unfold atW
  rw [if_neg (fun e => hw (List.eq_nil_of_length_eq_zero e)), hs, Option.bind_some, if_pos hi]
  rw [List.getD_eq_getElem?_getD, List.getElem?_eq_getElem h1]; rfl
theorem on_of {l xs : List Nd} {way : List Int} (g : List Nd → Int → List Nd) (hs : stepsW l way.dropLast = some xs) : onW l way g = plugS l way.dropLast (g xs (lastW way)) := by
  unfold onW foundW subW
  rw [hs]; rfl
theorem ins_some {l r : List Nd} {way : List Int} {n : Nd} (h : insR l way n = some r) : ∃ xs, way ≠ [] ∧ stepsW l way.dropLast = some xs ∧ 0 ≤ lastW way ∧ lastW way ≤ (xs.length : Int) ∧ r = plugS l way.dropLast (insAt xs (lastW way) n) := by
  unfold insR at h
  split at h
  · rename_i hc
    injection h with h
    simp only [Bool.and_eq_true, bne_iff_ne, ne_eq] at hc
    obtain ⟨⟨h1, h2⟩, h3⟩ := hc
    have hf := h2
    unfold foundW at h2
    obtain ⟨xs, hs⟩ := Option.isSome_iff_exists.1 h2
    unfold okInsW at h3
    rw [if_pos hf] at h3
    have hsub : subW l way = xs := by unfold subW; rw [hs]; rfl
    rw [hsub] at h3
    simp only [okIns, Bool.and_eq_true, decide_eq_true_eq] at h3
    exact ⟨xs, fun e => h1 (by rw [e]; rfl), hs, h3.1, h3.2, by rw [← h]; exact on_of _ hs⟩
  · cases h
theorem ins_of {l xs : List Nd} {way : List Int} {n : Nd} (hw : way ≠ []) (hs : stepsW l way.dropLast = some xs) (h0 : 0 ≤ lastW way) (h1 : lastW way ≤ (xs.length : Int)) : insR l way n = some (plugS l way.dropLast (insAt xs (lastW way) n)) := by
  have hf : foundW l way = true := by unfold foundW; rw [hs]; rfl
  have hsub : subW l way = xs := by unfold subW; rw [hs]; rfl
  unfold insR
  rw [if_pos, show insW l way n = plugS l way.dropLast (insAt xs (lastW way) n) from on_of _ hs]
  have hok : okInsW l way false = true := by
    unfold okInsW; rw [if_pos hf, hsub]
    simp only [okIns, Bool.and_eq_true, decide_eq_true_eq]; exact ⟨h0, h1⟩
  rw [hf, hok]
  simp [hw]
theorem insAt_of {xs : List Nd} {i : Int} {n : Nd} (h0 : 0 ≤ i) (h1 : i ≤ (xs.length : Int)) : insAt xs i n = xs.take i.toNat ++ n :: xs.drop i.toNat := by
  unfold insAt
  rw [if_pos (by simp only [Bool.and_eq_true, decide_eq_true_eq]; exact ⟨h0, h1⟩), List.append_assoc]; rfl
theorem putAt_set {xs : List Nd} {i : Int} (n : Nd) (h : i.toNat < xs.length) : putAt xs i n = xs.set i.toNat n := by
  unfold putAt
  rw [List.append_assoc, List.singleton_append, List.set_eq_take_append_cons_drop, if_pos h]
theorem step_back {l l' : List Nd} {x : Ed} (h : stepEd l x = .ok l') : stepEd l' (turnEd x) = .ok l := by
  unfold stepEd at h
  split at h
  · rename_i h1
    cases hr : insR l x.way x.new with
    | none => rw [hr] at h; cases h
    | some r =>
      rw [hr] at h
      injection h with h
      subst h
      obtain ⟨xs, hw, hs, g0, g1, rfl⟩ := ins_some hr
      have hs' := steps_plug (insAt xs (lastW x.way) x.new) hs
      have hlen : (insAt xs (lastW x.way) x.new).length = xs.length + 1 := by rw [insAt_of g0 g1]; simp only [List.length_append, List.length_take, List.length_cons, List.length_drop]; omega
      have hi : inB (insAt xs (lastW x.way) x.new) (lastW x.way) = true := by simp only [inB, Bool.and_eq_true, decide_eq_true_eq]; rw [hlen]; omega
      have hlt : (lastW x.way).toNat < (insAt xs (lastW x.way) x.new).length := by omega
      have hat := at_of hw hs' hi hlt
      have hel : (insAt xs (lastW x.way) x.new)[(lastW x.way).toNat] = x.new := by
        have e := insAt_of (n := x.new) g0 g1
        simp only [e]
        rw [List.getElem_append_right (by simp only [List.length_take]; omega)]
        simp only [List.length_take, show (lastW x.way).toNat - min (lastW x.way).toNat xs.length = 0 by omega, List.getElem_cons_zero]
      rw [hel] at hat
      have hwhat : (turnEd x).what = 2 := by unfold turnEd; simp only [h1, if_true]
      unfold stepEd
      rw [hwhat, show (turnEd x).way = x.way from rfl, hat]
      have hok : okAt x.new (turnEd x) = true := by
        unfold okAt; rw [hwhat]
        exact eqNd_self x.new
      have hcut : cutW (plugS l x.way.dropLast (insAt xs (lastW x.way) x.new)) x.way = l := by
        show onW _ _ _ = _
        rw [on_of cutAt hs', plug_plug _ _ hs]
        have e : cutAt (insAt xs (lastW x.way) x.new) (lastW x.way) = xs := by
          rw [insAt_of g0 g1]
          unfold cutAt
          rw [List.take_append_of_le_length (by simp only [List.length_take]; omega), List.take_take, Nat.min_self, List.drop_append, List.drop_of_length_le (by simp only [List.length_take]; omega)]
          simp only [List.length_take, show (lastW x.way).toNat + 1 - min (lastW x.way).toNat xs.length = 1 by omega, List.drop_succ_cons, List.drop_zero, List.nil_append]
          exact List.take_append_drop _ _
        rw [e]
        exact plug_self hs
      simp [hok, hcut]
  · rename_i h1
    split at h
    · rename_i h2
      cases ha : atW l x.way with
      | none => rw [ha] at h; cases h
      | some n =>
        rw [ha] at h
        simp only at h
        split at h
        · rename_i hok
          injection h with h
          obtain ⟨xs, hw, hs, hi, hlt, hn⟩ := at_some ha
          have hi' := hi
          simp only [inB, Bool.and_eq_true, decide_eq_true_eq] at hi'
          split at h
          · rename_i h3
            -- taken out
            have h3' : x.what = 2 := by simpa using h3
            have hold : n = x.old := by
              unfold okAt at hok
              rw [h3'] at hok
              exact (eqNd_iff _ _).1 hok
            have hl' : l' = plugS l x.way.dropLast (cutAt xs (lastW x.way)) := by rw [← h]; exact on_of _ hs
            have hs' := steps_plug (cutAt xs (lastW x.way)) hs
            rw [← hl'] at hs'
            have hlen : (cutAt xs (lastW x.way)).length + 1 = xs.length := by unfold cutAt; simp only [List.length_append, List.length_take, List.length_drop]; omega
            have hins := ins_of (n := x.old) hw hs' hi'.1 (by omega)
            have hwhat : (turnEd x).what = 1 := by unfold turnEd; rw [h3']; rfl
            unfold stepEd
            rw [hwhat, show (turnEd x).way = x.way from rfl, show (turnEd x).new = x.old from rfl, hins]
            simp only [beq_self_eq_true, if_true]
            have e : insAt (cutAt xs (lastW x.way)) (lastW x.way) x.old = xs := by
              rw [insAt_of hi'.1 (by omega), ← hold, hn]
              unfold cutAt
              rw [List.take_append_of_le_length (by simp only [List.length_take]; omega), List.take_take, Nat.min_self, List.drop_append, List.drop_of_length_le (by simp only [List.length_take]; omega)]
              simp only [List.length_take, show (lastW x.way).toNat - min (lastW x.way).toNat xs.length = 0 by omega, List.drop_zero, List.nil_append]
              rw [← List.drop_eq_getElem_cons hlt]
              exact List.take_append_drop _ _
            rw [e, hl', plug_plug _ _ hs, plug_self hs]
          · rename_i h3
            -- attributes or text
            have hl' : l' = plugS l x.way.dropLast (xs.set (lastW x.way).toNat (chgNd n x)) := by
              rw [← h, ← putAt_set _ hlt]; exact on_of _ hs
            have hs' := steps_plug (xs.set (lastW x.way).toNat (chgNd n x)) hs
            rw [← hl'] at hs'
            have hat := at_of hw hs' (by rw [inB_len (l := xs) (by rw [List.length_set])]; exact hi) (by rw [List.length_set]; exact hlt)
            rw [List.getElem_set_self] at hat
            have hwhat : (turnEd x).what = x.what := by
              unfold turnEd
              simp only [h1, h3, Bool.false_eq_true, if_false]
            have h34 : (x.what == 3) = true ∨ ((x.what == 3) = false ∧ (x.what == 4) = true) := by
              simp only [Bool.or_eq_true] at h2
              rcases h2 with (h2 | h2) | h2
              · exact absurd h2 h3
              · exact .inl h2
              · cases h5 : (x.what == 3)
                · exact .inr ⟨rfl, h2⟩
                · exact .inl rfl
            have hback : okAt (chgNd n x) (turnEd x) = true ∧ chgNd (chgNd n x) (turnEd x) = n := by
              unfold okAt at hok
              unfold okAt chgNd
              rw [hwhat]
              have h3f : (x.what == 2) = false := by simpa using h3
              rcases h34 with h5 | ⟨h5, _⟩
              · simp only [h5, if_true] at hok ⊢
                refine ⟨eql_self eqAt_self _, ?_⟩
                have := (eql_iff eqAt_iff).1 hok
                show ({ n with attrs := x.old.attrs } : Nd) = n
                rw [← this]
                exact nd_eta n
              · simp only [h5, h3f, Bool.false_eq_true, if_false] at hok ⊢
                refine ⟨eqS_self _, ?_⟩
                have := eqS_iff.1 hok
                show ({ n with text := x.old.text } : Nd) = n
                rw [← this]
                exact nd_eta n
            unfold stepEd
            rw [hwhat, show (turnEd x).way = x.way from rfl, hat]
            rw [if_neg h1, if_pos h2]
            simp only [hback.1, hback.2, if_true]
            rw [if_neg h3]
            have hput : putW l' x.way n = l := by
              show onW _ _ _ = _
              rw [on_of (fun xs i => putAt xs i n) hs', putAt_set _ (by rw [List.length_set]; exact hlt), List.set_set, hl', plug_plug _ _ hs, hn, List.set_getElem_self, plug_self hs]
            rw [hput]
        · cases h
    · cases h
theorem about_cons (x : Ed) (s : List Ed) : aboutS (x :: s) = aboutS s ++ [turnEd x] := by unfold aboutS; rw [List.reverse_cons, List.map_append]; rfl
theorem apply_back : ∀ {s : List Ed} {l m : List Nd}, applyS l s = .ok m → applyS m (aboutS s) = .ok l
  | [], l, m, h => by injection h with h; subst h; rfl
  | x :: s, l, m, h => by
    rw [applyS] at h
    split at h
    · cases h
    · rename_i l1 h1
      rw [about_cons, applyS_app, apply_back h]
      simp only [applyS, step_back h1]
end Go.Proofs.Ytmkjjopflncedaa.AXP
end
section
namespace Go.Proofs.Ytmkjjopflncedaa.AX
open Go AXP
noncomputable def cxBack : Cx := cxT (tabLook [(13, conLg), (14, conLo 50), (20, conApply), (21, conAbout), (19, conNodes), (15, conNone22)])
end Go.Proofs.Ytmkjjopflncedaa.AX
end
section
namespace Go.Proofs.Ytmkjjopflncedaa.AX
open Go AXP
set_option maxRecDepth 100000
theorem vcBackF (l : List Nd) (s : List Ed) (Q : List AV → List Blk → List Blk → Prop) : (funA cxBack (LL Try.f4 []) Try.f4 [.row .node l, .row .edit s] [] [] Q) = (
Br (largeB l) (Q [AV.bool true] [] [])
  (Br (longB (50 : Int) s) (Q [AV.bool true] [] [])
    (Rq ((2 : Nat) * (wtNds l + wtEds s) ≤ wtMx)
      (Br (applyE l s != (0 : Int)) (Q [AV.bool true] [] [])
        (Rq (wtEds s ≤ wtMx)
          (Rq ((2 : Nat) * (wtNds (applyL l s) + wtEds (aboutS s)) ≤ wtMx)
            (Br (applyE (applyL l s) (aboutS s) == (0 : Int))
              (Br (eql eqNd (applyL (applyL l s) (aboutS s)) l) (Q [AV.bool true] [] []) (Q [AV.bool false] [] []))
              (Q [AV.bool false] [] [])))))))) := by kernel_rfl
end Go.Proofs.Ytmkjjopflncedaa.AX
end
section
namespace Go.Proofs.Ytmkjjopflncedaa.AXP
open Go Go.Proofs.Ytmkjjopflncedaa.AX
theorem applyE_ok {l m : List Nd} {s : List Ed} (h : applyS l s = .ok m) : applyE l s = 0 ∧ applyL l s = m := by unfold applyE applyL; rw [h]; exact ⟨rfl, rfl⟩
theorem applyE_zero {l : List Nd} {s : List Ed} (h : applyE l s = 0) : applyS l s = .ok (applyL l s) := by
  unfold applyE at h
  unfold applyL
  cases e : applyS l s with
  | error e' => rw [e] at h; exact absurd h (applyE_err e)
  | ok m => rfl
theorem applyE_ne {l : List Nd} {s : List Ed} (h : applyE l s ≠ 0) : applyS l s = .error (applyE l s) ∧ applyL l s = [] := by
  unfold applyE at h ⊢
  unfold applyL
  cases e : applyS l s with
  | error e' => exact ⟨rfl, rfl⟩
  | ok m => rw [e] at h; exact absurd rfl h
end Go.Proofs.Ytmkjjopflncedaa.AXP
namespace Go.Proofs.Ytmkjjopflncedaa.AX
open Go AXP
set_option maxRecDepth 100000
def conBack : Con := conP [.row .node, .row .edit] fun (_ : List Nd) (_ : List Ed) => { res := .bool true }
theorem back_holds : Holds 4 conBack := conP_holds fun l s => by
  refine fun_meets0 (AllH.tok (.cons lg22_holds (by kernel_rfl) (.cons lo22_holds (by kernel_rfl) (.cons apply_holds (by kernel_rfl) (.cons about_holds (by kernel_rfl) (.cons nodes_holds (by kernel_rfl) (.cons none22_holds (by kernel_rfl) .nil))))))) [] (by kernel_rfl) (by kernel_rfl) fun hpre => Eq.mpr (vcBackF l s _) ?_
  refine ⟨fun _ => qfin rfl rfl rfl rfl, fun h1 => ⟨fun _ => qfin rfl rfl rfl rfl, fun h2 => ?_⟩⟩
  have w1 := large_wt h1
  have w2 := (long_wt (by decide) h2).1
  refine ⟨by unfold wtMx; omega, ⟨fun _ => qfin rfl rfl rfl rfl, fun h3 => ?_⟩⟩
  have h3 : applyE l s = 0 := by simpa using h3
  have h4 := applyE_zero h3
  have w3 := wt_apply h4
  have h5 := applyE_ok (apply_back h4)
  refine ⟨by unfold wtMx; omega, ⟨by rw [wt_about]; unfold wtMx; omega, ⟨fun _ => ⟨fun _ => qfin rfl rfl rfl rfl, fun h => ?_⟩, fun h => ?_⟩⟩⟩
  · rw [h5.2, eql_self eqNd_self] at h; cases h
  · rw [h5.1] at h; cases h
end Go.Proofs.Ytmkjjopflncedaa.AX
end
section
namespace Go.Proofs.Ytmkjjopflncedaa.AXP
open Go Go.Proofs.Ytmkjjopflncedaa.AX
/-- A row of counts out of the one below it, as the program has it. -/
def rowP {α : Type} (eq : α → α → Bool) (x : α) : List α → List Int → List Int
  | y :: b, h :: t => (if eq x y = true then 1 + t.headD 0 else if (rowP eq x b t).headD 0 > h then (rowP eq x b t).headD 0 else h) :: rowP eq x b t
  | _, _ => [0]
/-- The same, as the document has it. -/
def rowR {α : Type} (eq : α → α → Bool) (x : α) : List α → List Int → List Int
  | y :: b, h :: t => (let n := (if h > (rowR eq x b t).headD 0 then h else (rowR eq x b t).headD 0); if (eq x y && decide (t.headD 0 + 1 > n)) = true then t.headD 0 + 1 else n) :: rowR eq x b t
  | _, _ => [0]
def cntP {α : Type} (eq : α → α → Bool) : List α → List α → List (List Int)
  | [], b => [List.replicate (b.length + 1) 0]
  | x :: a, b => rowP eq x b ((cntP eq a b).headD []) :: cntP eq a b
def cntR {α : Type} (eq : α → α → Bool) : List α → List α → List (List Int)
  | [], b => [List.replicate (b.length + 1) 0]
  | x :: a, b => rowR eq x b ((cntR eq a b).headD []) :: cntR eq a b
/-- Rows fall by one at most, to nothing. -/
def Falls : List Int → Prop
  | [] => False
  | [z] => z = 0
  | h :: g :: t => g ≤ h ∧ h ≤ g + 1 ∧ Falls (g :: t)
theorem Falls.cons {h : Int} {t : List Int} (ht : t ≠ []) : Falls (h :: t) ↔ (t.headD 0 ≤ h ∧ h ≤ t.headD 0 + 1 ∧ Falls t) := by
  cases t with
  | nil => exact (ht rfl).elim
  | cons g t => exact Iff.rfl
theorem rowP_cons {α : Type} (eq : α → α → Bool) (x y : α) (b : List α) (h : Int) (t : List Int) : rowP eq x (y :: b) (h :: t) = (if eq x y = true then 1 + t.headD 0 else if (rowP eq x b t).headD 0 > h then (rowP eq x b t).headD 0 else h) :: rowP eq x b t := rfl
theorem rowR_cons {α : Type} (eq : α → α → Bool) (x y : α) (b : List α) (h : Int) (t : List Int) : rowR eq x (y :: b) (h :: t) = (let n := (if h > (rowR eq x b t).headD 0 then h else (rowR eq x b t).headD 0); if (eq x y && decide (t.headD 0 + 1 > n)) = true then t.headD 0 + 1 else n) :: rowR eq x b t := rfl
theorem rowP_len {α : Type} (eq : α → α → Bool) (x : α) : ∀ {b : List α} {l : List Int}, l.length = b.length + 1 → (rowP eq x b l).length = b.length + 1
  | [], l, _ => rfl
  | y :: b, [], h => by simp at h
  | y :: b, h :: t, hl => by rw [rowP_cons, List.length_cons, rowP_len eq x (by simpa using hl)]; rfl
theorem rowP_ok {α : Type} (eq : α → α → Bool) (x : α) : ∀ {b : List α} {l : List Int}, l.length = b.length + 1 → Falls l →
    Falls (rowP eq x b l) ∧ l.headD 0 ≤ (rowP eq x b l).headD 0 ∧ (rowP eq x b l).headD 0 ≤ l.headD 0 + 1 ∧ rowR eq x b l = rowP eq x b l
  | [], l, hl, hf => by
    cases l with
    | nil => simp at hl
    | cons z t =>
      cases t with
      | nil => have hf : z = 0 := hf; subst hf; exact ⟨rfl, by simp [rowP], by simp [rowP], rfl⟩
      | cons g t => simp at hl
  | y :: b, [], hl, _ => by simp at hl
  | y :: b, h :: t, hl, hf => by
    have hl' : t.length = b.length + 1 := by simpa using hl
    have ht : t ≠ [] := fun e => by rw [e] at hl'; simp at hl'
    obtain ⟨f1, f2, f3⟩ := (Falls.cons ht).1 hf
    obtain ⟨i1, i2, i3, i4⟩ := rowP_ok eq x hl' f3
    have hr : rowP eq x b t ≠ [] := fun e => by have := rowP_len eq x hl'; rw [e] at this; simp at this
    rw [rowR_cons, rowP_cons, i4]
    generalize rowP eq x b t = r at *
    cases eq x y with
    | true =>
      simp only [if_true, List.headD_cons, Bool.true_and, decide_eq_true_eq]
      rw [Falls.cons hr]
      refine ⟨⟨by omega, by omega, i1⟩, by omega, by omega, ?_⟩
      congr 1
      split <;> split <;> omega
    | false =>
      simp only [Bool.false_eq_true, if_false, List.headD_cons, Bool.false_and]
      rw [Falls.cons hr]
      refine ⟨⟨?_, ?_, i1⟩, ?_, ?_, ?_⟩
      · split <;> omega
      · split <;> omega
      · split <;> omega
      · split <;> omega
      · congr 1
        split <;> split <;> omega
theorem falls_rep : ∀ n : Nat, Falls (List.replicate (n + 1) 0)
  | 0 => rfl
  | n + 1 => ⟨Int.le_refl _, by decide, falls_rep n⟩
theorem cntP_ok {α : Type} (eq : α → α → Bool) (b : List α) : ∀ a : List α, ((cntP eq a b).headD []).length = b.length + 1 ∧ Falls ((cntP eq a b).headD []) ∧ cntR eq a b = cntP eq a b
  | [] => ⟨by simp [cntP], falls_rep _, rfl⟩
  | x :: a => by
    obtain ⟨h1, h2, h3⟩ := cntP_ok eq b a
    obtain ⟨i1, _, _, i4⟩ := rowP_ok eq x h1 h2
    refine ⟨rowP_len eq x h1, i1, ?_⟩
    rw [cntR, cntP, h3, i4]
theorem cntP_len {α : Type} (eq : α → α → Bool) (b : List α) : ∀ a : List α, (cntP eq a b).length = a.length + 1
  | [] => rfl
  | x :: a => by rw [cntP, List.length_cons, cntP_len eq b a]; rfl
theorem rowP_drop {α : Type} (eq : α → α → Bool) (x : α) : ∀ (j : Nat) {b : List α} {l : List Int}, l.length = b.length + 1 → j ≤ b.length → rowP eq x (b.drop j) (l.drop j) = (rowP eq x b l).drop j
  | 0, b, l, _, _ => rfl
  | j + 1, [], l, _, hj => by simp at hj
  | j + 1, y :: b, [], hl, _ => by simp at hl
  | j + 1, y :: b, h :: t, hl, hj => by
    rw [rowP_cons, List.drop_succ_cons, List.drop_succ_cons, List.drop_succ_cons]
    exact rowP_drop eq x j (by simpa using hl) (by simpa using hj)
theorem cntP_drop {α : Type} (eq : α → α → Bool) (b : List α) : ∀ (i : Nat) {a : List α}, i ≤ a.length → cntP eq (a.drop i) b = (cntP eq a b).drop i
  | 0, a, _ => rfl
  | i + 1, [], h => by simp at h
  | i + 1, x :: a, h => by rw [cntP, List.drop_succ_cons, List.drop_succ_cons]; exact cntP_drop eq b i (by simpa using h)
/-- Counts hang on which are the same alone. -/
theorem rowP_map {α β : Type} (eq : α → α → Bool) (eq' : β → β → Bool) (f g : α → β) (x : α) : ∀ (b : List α) (l : List Int), (∀ y ∈ b, eq' (f x) (g y) = eq x y) → rowP eq' (f x) (b.map g) l = rowP eq x b l
  | [], l, _ => by cases l <;> rfl
  | y :: b, [], _ => rfl
  | y :: b, h :: t, hh => by
    rw [List.map_cons, rowP_cons, rowP_cons, rowP_map eq eq' f g x b t (fun z hz => hh z (.tail _ hz)), hh y (.head _)]
theorem cntP_map {α β : Type} (eq : α → α → Bool) (eq' : β → β → Bool) (f g : α → β) (b : List α) : ∀ (a : List α), (∀ x ∈ a, ∀ y ∈ b, eq' (f x) (g y) = eq x y) → cntP eq' (a.map f) (b.map g) = cntP eq a b
  | [], _ => by rw [List.map_nil, cntP, cntP, List.length_map]
  | x :: a, hh => by
    rw [List.map_cons, cntP, cntP, cntP_map eq eq' f g b a (fun z hz => hh z (.tail _ hz)), rowP_map eq eq' f g x b _ (hh x (.head _))]

/-! ### The pairs of two lists -/
/-- 'e': are two places' texts the same; 'g': is more left ahead in the first list. -/
def lineF (e g : Nat → Nat → Bool) (la lb : Nat) : Nat → Nat → Nat → List Pr
  | 0, _, _ => []
  | f + 1, i, j => if i < la ∧ j < lb then (if e i j = true then ⟨i, j, true⟩ :: lineF e g la lb f (i + 1) (j + 1) else if g i j = true then lineF e g la lb f (i + 1) j else lineF e g la lb f i (j + 1)) else []
theorem lineF_congr {e g e' g' : Nat → Nat → Bool} {la lb : Nat} (he : ∀ i j, i < la → j < lb → e i j = e' i j) (hg : ∀ i j, i < la → j < lb → g i j = g' i j) : ∀ (f i j : Nat), lineF e g la lb f i j = lineF e' g' la lb f i j
  | 0, _, _ => rfl
  | f + 1, i, j => by
    rw [lineF, lineF]
    by_cases h : i < la ∧ j < lb
    · rw [if_pos h, if_pos h, he i j h.1 h.2, hg i j h.1 h.2, lineF_congr he hg f, lineF_congr he hg f, lineF_congr he hg f]
    · rw [if_neg h, if_neg h]
/-- Pairs that rise in both lists, from two places on. -/
def Rise (e : Nat → Nat → Bool) (la lb : Nat) : Nat → Nat → List Pr → Prop
  | _, _, [] => True
  | i, j, p :: ps => ∃ x y : Nat, p = ⟨x, y, true⟩ ∧ i ≤ x ∧ j ≤ y ∧ x < la ∧ y < lb ∧ e x y = true ∧ Rise e la lb (x + 1) (y + 1) ps
theorem Rise.mono {e : Nat → Nat → Bool} {la lb i j i' j' : Nat} {ps : List Pr} (h : Rise e la lb i j ps) (hi : i' ≤ i) (hj : j' ≤ j) : Rise e la lb i' j' ps := by
  cases ps with
  | nil => trivial
  | cons p ps =>
    obtain ⟨x, y, h1, h2, h3, h4⟩ := h
    exact ⟨x, y, h1, by omega, by omega, h4⟩
theorem lineF_rise {e g : Nat → Nat → Bool} {la lb : Nat} : ∀ (f i j : Nat), Rise e la lb i j (lineF e g la lb f i j)
  | 0, _, _ => trivial
  | f + 1, i, j => by
    rw [lineF]
    split
    · rename_i h
      split
      · rename_i he
        exact ⟨i, j, rfl, Nat.le_refl _, Nat.le_refl _, h.1, h.2, he, lineF_rise f _ _⟩
      · split
        · exact (lineF_rise f (i + 1) j).mono (by omega) (by omega)
        · exact (lineF_rise f i (j + 1)).mono (by omega) (by omega)
    · trivial
theorem lineF_succ (e g : Nat → Nat → Bool) (la lb f i j : Nat) : lineF e g la lb (f + 1) i j = if i < la ∧ j < lb then (if e i j = true then ⟨i, j, true⟩ :: lineF e g la lb f (i + 1) (j + 1) else if g i j = true then lineF e g la lb f (i + 1) j else lineF e g la lb f i (j + 1)) else [] := rfl
theorem lineF_fuel {e g : Nat → Nat → Bool} {la lb : Nat} : ∀ (f i j : Nat), la + lb - (i + j) ≤ f → i ≤ la → j ≤ lb → lineF e g la lb (f + 1) i j = lineF e g la lb f i j
  | 0, i, j, h, hi, hj => by rw [lineF, lineF, if_neg (by omega)]
  | f + 1, i, j, h, hi, hj => by
    rw [lineF_succ e g la lb (f + 1) i j, lineF_succ e g la lb f i j]
    split
    · rename_i hlt
      rw [lineF_fuel f _ _ (by omega) (by omega) (by omega), lineF_fuel f _ _ (by omega) (by omega) (by omega), lineF_fuel f _ _ (by omega) (by omega) (by omega)]
    · rfl
/-- Whole pairs of a list with itself. -/
theorem lineF_self {e g : Nat → Nat → Bool} {la : Nat} (he : ∀ i, i < la → e i i = true) : ∀ (f i : Nat), la - i ≤ f → i ≤ la → lineF e g la la f i i = (List.range' i (la - i)).map fun k : Nat => (⟨k, k, true⟩ : Pr)
  | 0, i, h, hi => by rw [show la - i = 0 by omega]; rfl
  | f + 1, i, h, hi => by
    rw [lineF]
    by_cases hlt : i < la
    · rw [if_pos ⟨hlt, hlt⟩, if_pos (he i hlt), lineF_self he f (i + 1) (by omega) (by omega), show la - i = (la - (i + 1)) + 1 by omega, List.range'_succ]; rfl
    · rw [if_neg (by omega), show la - i = 0 by omega]; rfl

/-! ### Alike ones between whole pairs -/
def findJ (lb : Nat → Bool) : Nat → Nat → Option Nat
  | 0, _ => none
  | f + 1, j => if lb j = true then some j else findJ lb f (j + 1)
theorem findJ_some {lb : Nat → Bool} : ∀ {f j k : Nat}, findJ lb f j = some k → j ≤ k ∧ k < j + f ∧ lb k = true
  | 0, _, _, h => by cases h
  | f + 1, j, k, h => by
    rw [findJ] at h
    split at h
    · rename_i hb
      injection h with h; subst h
      exact ⟨Nat.le_refl _, by omega, hb⟩
    · have := findJ_some h
      exact ⟨by omega, by omega, this.2.2⟩
def alikeS (lab : Nat → Nat → Bool) (toB : Nat) : Nat → Nat → Nat → List Pr
  | 0, _, _ => []
  | f + 1, i, from_ => match findJ (lab i) (toB - from_) from_ with
    | some j => ⟨i, j, false⟩ :: alikeS lab toB f (i + 1) (j + 1)
    | none => alikeS lab toB f (i + 1) from_
/-- Where the next one may be, behind those of a gap. -/
def gapsS (lab : Nat → Nat → Bool) (la lb : Nat) : List Pr → Nat → Nat → List Pr
  | [], ga, gb => alikeS lab lb (la - ga) ga gb
  | p :: ps, ga, gb => alikeS lab p.b.toNat (p.a.toNat - ga) ga gb ++ p :: gapsS lab la lb ps (p.a.toNat + 1) (p.b.toNat + 1)
/-- All pairs rise, too; whole ones are the same, others are alike. -/
def RiseL (e lab : Nat → Nat → Bool) (la lb : Nat) : Nat → Nat → List Pr → Prop
  | _, _, [] => True
  | i, j, p :: ps => ∃ (x y : Nat) (w : Bool), p = ⟨x, y, w⟩ ∧ i ≤ x ∧ j ≤ y ∧ x < la ∧ y < lb ∧ (w = true → e x y = true) ∧ (w = false → lab x y = true) ∧ RiseL e lab la lb (x + 1) (y + 1) ps
theorem RiseL.mono {e lab : Nat → Nat → Bool} {la lb i j i' j' : Nat} {ps : List Pr} (h : RiseL e lab la lb i j ps) (hi : i' ≤ i) (hj : j' ≤ j) : RiseL e lab la lb i' j' ps := by
  cases ps with
  | nil => trivial
  | cons p ps =>
    obtain ⟨x, y, w, h1, h2, h3, h4⟩ := h
    exact ⟨x, y, w, h1, by omega, by omega, h4⟩
theorem alikeS_rise {e lab : Nat → Nat → Bool} {la lb toB : Nat} (hB : toB ≤ lb) : ∀ {f i from_ : Nat} {ps : List Pr}, i + f ≤ la → from_ ≤ toB → (∀ j, j ≤ toB → RiseL e lab la lb (i + f) j ps) → RiseL e lab la lb i from_ (alikeS lab toB f i from_ ++ ps)
  | 0, i, fr, ps, _, hf, h => h fr hf
  | f + 1, i, fr, ps, hi, hf, h => by
    rw [alikeS]
    have h' : ∀ j, j ≤ toB → RiseL e lab la lb (i + 1 + f) j ps := fun j hj => by rw [show i + 1 + f = i + (f + 1) by omega]; exact h j hj
    cases hj : findJ (lab i) (toB - fr) fr with
    | none => exact (alikeS_rise hB (by omega) hf h').mono (by omega) (Nat.le_refl _)
    | some j =>
      obtain ⟨h1, h2, h3⟩ := findJ_some hj
      exact ⟨i, j, false, rfl, Nat.le_refl _, h1, by omega, by omega, fun h => (nomatch h), fun _ => h3, alikeS_rise hB (by omega) (by omega) h'⟩
theorem gapsS_rise {e lab : Nat → Nat → Bool} {la lb : Nat} : ∀ {ps : List Pr} {ga gb : Nat}, Rise e la lb ga gb ps → ga ≤ la → gb ≤ lb → RiseL e lab la lb ga gb (gapsS lab la lb ps ga gb)
  | [], ga, gb, _, ha, hb => by
    have := alikeS_rise (e := e) (lab := lab) (la := la) (lb := lb) (toB := lb) (Nat.le_refl _) (f := la - ga) (i := ga) (from_ := gb) (ps := []) (by omega) hb (fun _ _ => trivial)
    rw [List.append_nil] at this
    exact this
  | p :: ps, ga, gb, h, ha, hb => by
    obtain ⟨x, y, rfl, h1, h2, h3, h4, h5, h6⟩ := h
    rw [gapsS]
    simp only [Int.toNat_natCast]
    refine alikeS_rise (Nat.le_of_lt h4) (by omega) h2 fun j hj => ?_
    exact ⟨x, y, true, rfl, by omega, hj, h3, h4, fun _ => h5, fun h => (nomatch h), gapsS_rise h6 (by omega) (by omega)⟩
end Go.Proofs.Ytmkjjopflncedaa.AXP
end
section
namespace Go.Proofs.Ytmkjjopflncedaa.AXP
open Go Go.Proofs.Ytmkjjopflncedaa.AX
def eN (a b : List Nd) (i j : Nat) : Bool := eqNd (a.getD i default) (b.getD j default)
def gN (m : List (List Int)) (i j : Nat) : Bool := decide ((m.getD (i + 1) []).getD j 0 ≥ (m.getD i []).getD (j + 1) 0)
def alN (x y : Nd) : Bool := x.kind == y.kind && x.space == y.space && eqS x.name y.name
def lN (a b : List Nd) (i j : Nat) : Bool := alN (a.getD i default) (b.getD j default)
/-- The whole pairs of two lists; all pairs. -/
def wholeS (a b : List Nd) : List Pr := lineF (eN a b) (gN (cntP eqNd a b)) a.length b.length (a.length + b.length) 0 0
def pairsS (a b : List Nd) : List Pr := gapsS (lN a b) a.length b.length (wholeS a b) 0 0
def delsE (a : List Nd) (way : List Int) (at_ : Nat) : Nat → Nat → List Ed
  | 0, _ => []
  | n + 1, i => ⟨2, way ++ [(at_ : Int)], a.getD i default, default⟩ :: delsE a way at_ n (i + 1)
def inssE (b : List Nd) (way : List Int) : Nat → Nat → List Ed
  | 0, _ => []
  | n + 1, j => ⟨1, way ++ [(j : Int)], default, b.getD j default⟩ :: inssE b way n (j + 1)
def attE (x y : Nd) (way : List Int) : List Ed := if eql eqAt x.attrs y.attrs = true then [] else [⟨3, way, { (default : Nd) with attrs := x.attrs }, { (default : Nd) with attrs := y.attrs }⟩]
def txtE (x y : Nd) (way : List Int) : List Ed := if eqS x.text y.text = true then [] else [⟨4, way, { (default : Nd) with text := x.text }, { (default : Nd) with text := y.text }⟩]
def alikeE (rec_ : List Nd → List Nd → List Int → List Ed) (x y : Nd) (way : List Int) : List Ed := attE x y way ++ txtE x y way ++ rec_ x.kids y.kids way
def genE (rec_ : List Nd → List Nd → List Int → List Ed) (a b : List Nd) (way : List Int) : List Pr → Nat → Nat → List Ed
  | [], i, j => delsE a way j (a.length - i) i ++ inssE b way (b.length - j) j
  | p :: ps, i, j => delsE a way j (p.a.toNat - i) i ++ inssE b way (p.b.toNat - j) j ++
      (if p.whole = true then [] else alikeE rec_ (a.getD p.a.toNat default) (b.getD p.b.toNat default) (way ++ [((p.b.toNat : Nat) : Int)])) ++ genE rec_ a b way ps (p.a.toNat + 1) (p.b.toNat + 1)
/-- 'k': more than how deep the first list is. -/
def scriptF : Nat → List Nd → List Nd → List Int → List Ed
  | 0, _, _, _ => []
  | k + 1, a, b, way => genE (scriptF k) a b way (pairsS a b) 0 0
mutual
def dpNd : Nd → Nat
  | ⟨_, _, _, _, _, c⟩ => 1 + dpNds c
def dpNds : List Nd → Nat
  | [] => 0
  | n :: l => max (dpNd n) (dpNds l)
end
def scriptS (a b : List Nd) (way : List Int) : List Ed := scriptF (dpNds a + 1) a b way
theorem dpNd_eq (n : Nd) : dpNd n = 1 + dpNds n.kids := by cases n; rw [dpNd]
theorem dp_mem : ∀ {l : List Nd} {x : Nd}, x ∈ l → dpNd x ≤ dpNds l
  | y :: l, x, h => by
    rw [dpNds]
    cases h with
    | head => omega
    | tail _ h => have := dp_mem h; omega
theorem dp_kids {a : List Nd} {i : Nat} (h : i < a.length) : dpNds (a.getD i default).kids < dpNds a := by
  have e : a.getD i default = a[i] := by rw [List.getD_eq_getElem?_getD, List.getElem?_eq_getElem h]; rfl
  rw [e]
  have := dp_mem (List.getElem_mem h)
  rw [dpNd_eq] at this; omega
theorem pairs_rise (a b : List Nd) : RiseL (eN a b) (lN a b) a.length b.length 0 0 (pairsS a b) := gapsS_rise (lineF_rise _ _ _) (Nat.zero_le _) (Nat.zero_le _)
theorem genE_congr {r r' : List Nd → List Nd → List Int → List Ed} {a b : List Nd} {way : List Int} {e lab : Nat → Nat → Bool} (h : ∀ i y w, i < a.length → r (a.getD i default).kids y w = r' (a.getD i default).kids y w) : ∀ {ps : List Pr} {i j i' j' : Nat}, RiseL e lab a.length b.length i' j' ps → genE r a b way ps i j = genE r' a b way ps i j
  | [], _, _, _, _, _ => rfl
  | p :: ps, i, j, i', j', hr => by
    obtain ⟨x, y, w, rfl, h1, h2, h3, h4, h5, h6, h7⟩ := hr
    rw [genE, genE, genE_congr h h7]
    simp only [Int.toNat_natCast]
    unfold alikeE
    rw [h x _ _ h3]
theorem scriptF_fuel : ∀ (k k' : Nat) (a b : List Nd) (way : List Int), dpNds a < k → dpNds a < k' → scriptF k a b way = scriptF k' a b way
  | 0, _, _, _, _, h, _ => by omega
  | _, 0, _, _, _, _, h => by omega
  | k + 1, k' + 1, a, b, way, h, h' => by
    rw [scriptF, scriptF]
    exact genE_congr (fun i y w hi => scriptF_fuel k k' _ _ _ (by have := dp_kids hi; omega) (by have := dp_kids hi; omega)) (pairs_rise a b)
theorem scriptS_of {k : Nat} {a b : List Nd} {way : List Int} (h : dpNds a < k) : scriptF k a b way = scriptS a b way := scriptF_fuel k _ a b way h (Nat.lt_succ_self _)

/-! ### Applied -/
theorem last_snoc (way : List Int) (j : Int) : lastW (way ++ [j]) = j := by unfold lastW; simp
theorem drop_snoc (way : List Int) (j : Int) : (way ++ [j]).dropLast = way := by simp
theorem snoc_ne (way : List Int) (j : Int) : way ++ [j] ≠ [] := by simp
theorem inB_nat {xs : List Nd} {j : Nat} (h : j < xs.length) : inB xs (j : Int) = true := by simp only [inB, Bool.and_eq_true, decide_eq_true_eq]; omega
theorem at_snoc {L C : List Nd} {way : List Int} {j : Nat} (hs : stepsW L way = some C) (hj : j < C.length) : atW L (way ++ [(j : Int)]) = some C[j] := by
  have := at_of (way := way ++ [(j : Int)]) (snoc_ne _ _) (by rw [drop_snoc]; exact hs) (by rw [last_snoc]; exact inB_nat hj) (by rw [last_snoc, Int.toNat_natCast]; exact hj)
  simp only [last_snoc, Int.toNat_natCast] at this
  exact this
theorem step_del {L C : List Nd} {way : List Int} {j : Nat} (n : Nd) (hs : stepsW L way = some C) (hj : j < C.length) : stepEd L ⟨2, way ++ [(j : Int)], C[j], n⟩ = .ok (plugS L way (C.take j ++ C.drop (j + 1))) := by
  unfold stepEd
  dsimp only
  rw [if_neg (by decide), if_pos (by decide), at_snoc hs hj]
  have hok : okAt C[j] ⟨2, way ++ [(j : Int)], C[j], n⟩ = true := eqNd_self C[j]
  dsimp only
  rw [if_pos hok, if_pos (by decide)]
  have : cutW L (way ++ [(j : Int)]) = plugS L (way ++ [(j : Int)]).dropLast (cutAt C (lastW (way ++ [(j : Int)]))) := on_of cutAt (by rw [drop_snoc]; exact hs)
  rw [this, drop_snoc, last_snoc]
  unfold cutAt
  rw [Int.toNat_natCast]
theorem step_ins {L C : List Nd} {way : List Int} {j : Nat} (o n : Nd) (hs : stepsW L way = some C) (hj : j ≤ C.length) : stepEd L ⟨1, way ++ [(j : Int)], o, n⟩ = .ok (plugS L way (C.take j ++ n :: C.drop j)) := by
  unfold stepEd
  dsimp only
  have := ins_of (n := n) (way := way ++ [(j : Int)]) (snoc_ne _ _) (by rw [drop_snoc]; exact hs) (by rw [last_snoc]; omega) (by rw [last_snoc]; omega)
  rw [if_pos (by decide), this, drop_snoc, last_snoc, insAt_of (by omega) (by omega), Int.toNat_natCast]
theorem step_chg {L C : List Nd} {way : List Int} {j : Nat} {x : Ed} (hw : x.way = way ++ [(j : Int)]) (hs : stepsW L way = some C) (hj : j < C.length) (h34 : x.what = 3 ∨ x.what = 4) (hok : okAt C[j] x = true) : stepEd L x = .ok (plugS L way (C.set j (chgNd C[j] x))) := by
  unfold stepEd
  rw [hw, at_snoc hs hj]
  have h1 : (x.what == 1) = false := by rcases h34 with h | h <;> rw [h] <;> rfl
  have h2 : (x.what == 2) = false := by rcases h34 with h | h <;> rw [h] <;> rfl
  have h5 : (x.what == 2 || x.what == 3 || x.what == 4) = true := by rcases h34 with h | h <;> rw [h] <;> rfl
  rw [if_neg (by rw [h1]; decide), if_pos h5]
  dsimp only
  rw [if_pos hok, if_neg (by rw [h2]; decide)]
  have : putW L (way ++ [(j : Int)]) (chgNd C[j] x) = plugS L (way ++ [(j : Int)]).dropLast (putAt C (lastW (way ++ [(j : Int)])) (chgNd C[j] x)) := on_of (fun xs i => putAt xs i (chgNd C[j] x)) (by rw [drop_snoc]; exact hs)
  rw [this, drop_snoc, last_snoc, putAt_set _ (by rw [Int.toNat_natCast]; exact hj), Int.toNat_natCast]
theorem apply_cons_ok {L L' : List Nd} {x : Ed} {s : List Ed} (h : stepEd L x = .ok L') : applyS L (x :: s) = applyS L' s := by rw [applyS, h]
theorem apply_app_ok {L L' : List Nd} {s t : List Ed} (h : applyS L s = .ok L') : applyS L (s ++ t) = applyS L' t := by rw [applyS_app, h]
theorem getD_at {a : List Nd} {i : Nat} (h : i < a.length) : a.getD i default = a[i] := by rw [List.getD_eq_getElem?_getD, List.getElem?_eq_getElem h]; rfl
section
variable {L C0 : List Nd} {way : List Int}
theorem apply_dels (a B : List Nd) (h0 : stepsW L way = some C0) : ∀ (n i : Nat), i + n ≤ a.length → applyS (plugS L way (B ++ a.drop i)) (delsE a way B.length n i) = .ok (plugS L way (B ++ a.drop (i + n)))
  | 0, i, _ => rfl
  | n + 1, i, h => by
    have hlt : i < a.length := by omega
    have hs := steps_plug (B ++ a.drop i) h0
    have e : (B ++ a.drop i) = B ++ a[i] :: a.drop (i + 1) := by rw [List.drop_eq_getElem_cons hlt]
    have hj : B.length < (B ++ a.drop i).length := by rw [e, List.length_append, List.length_cons]; omega
    have hg : (B ++ a.drop i)[B.length] = a[i] := by simp only [e]; rw [List.getElem_append_right (Nat.le_refl _)]; simp
    have := step_del (default : Nd) hs hj
    rw [hg, plug_plug _ _ h0] at this
    rw [delsE, getD_at hlt, apply_cons_ok this]
    have e2 : (B ++ a.drop i).take B.length ++ (B ++ a.drop i).drop (B.length + 1) = B ++ a.drop (i + 1) := by
      rw [e, List.take_left' rfl, ← List.drop_drop, List.drop_left' rfl]; rfl
    rw [e2, apply_dels a B h0 n (i + 1) (by omega), show i + 1 + n = i + (n + 1) by omega]
theorem take_get {b : List Nd} {j : Nat} (h : j < b.length) : b.take j ++ [b[j]] = b.take (j + 1) := by rw [List.take_succ_eq_append_getElem h]
theorem apply_inss (b R : List Nd) (h0 : stepsW L way = some C0) : ∀ (n j : Nat), j + n ≤ b.length → applyS (plugS L way (b.take j ++ R)) (inssE b way n j) = .ok (plugS L way (b.take (j + n) ++ R))
  | 0, j, _ => rfl
  | n + 1, j, h => by
    have hlt : j < b.length := by omega
    have hs := steps_plug (b.take j ++ R) h0
    have hl : (b.take j).length = j := by rw [List.length_take]; omega
    have := step_ins (j := j) (default : Nd) b[j] hs (by rw [List.length_append, hl]; omega)
    rw [plug_plug _ _ h0, List.take_left' hl, List.drop_left' hl] at this
    rw [inssE, getD_at hlt, apply_cons_ok this]
    have e2 : b.take j ++ b[j] :: R = b.take (j + 1) ++ R := by rw [← take_get hlt, List.append_assoc]; rfl
    rw [e2, apply_inss b R h0 n (j + 1) (by omega), show j + 1 + n = j + (n + 1) by omega]
theorem steps_snoc {C : List Nd} {j : Nat} (hs : stepsW L way = some C) (hj : j < C.length) : stepsW L (way ++ [(j : Int)]) = some C[j].kids := by
  rw [stepsW_app hs, stepsW, if_pos (inB_nat hj), Int.toNat_natCast, getD_at hj]; rfl
end
theorem plug_snoc : ∀ {way : List Int} {L C : List Nd} {j : Nat} (K : List Nd), stepsW L way = some C → (hj : j < C.length) → plugS L (way ++ [(j : Int)]) K = plugS L way (C.set j { C[j] with kids := K })
  | [], L, C, j, K, hs, hj => by
    injection hs with hs; subst hs
    rw [List.nil_append, plugS, plugS, plugS, Int.toNat_natCast, getD_at hj]
  | i :: way, L, C, j, K, hs, hj => by
    simp only [stepsW] at hs
    split at hs
    · rw [List.cons_append, plugS, plugS, plug_snoc K hs hj]
    · cases hs
theorem set_mid {B R : List Nd} (x y : Nd) : (B ++ x :: R).set B.length y = B ++ y :: R := by
  rw [List.set_append_right _ _ (Nat.le_refl _), Nat.sub_self]; rfl
section
variable {L C0 : List Nd} {way : List Int}
/-- A pair that is alike: what is changed of it. -/
theorem apply_alike {rec_ : List Nd → List Nd → List Int → List Ed} (B R : List Nd) (x y : Nd) (h0 : stepsW L way = some C0) (hal : alN x y = true)
    (hrec : ∀ (M : List Nd) (w : List Int), stepsW M w = some x.kids → applyS M (rec_ x.kids y.kids w) = .ok (plugS M w y.kids)) :
    applyS (plugS L way (B ++ x :: R)) (alikeE rec_ x y (way ++ [((B.length : Nat) : Int)])) = .ok (plugS L way (B ++ y :: R)) := by
  unfold alN at hal
  simp only [Bool.and_eq_true, beq_iff_eq, eqS_iff] at hal
  obtain ⟨⟨k1, k2⟩, k3⟩ := hal
  have hj : ∀ z : Nd, B.length < (B ++ z :: R).length := fun z => by simp
  have hg : ∀ z : Nd, (B ++ z :: R)[B.length]'(hj z) = z := fun z => by rw [List.getElem_append_right (Nat.le_refl _)]; simp
  have s1 : applyS (plugS L way (B ++ x :: R)) (attE x y (way ++ [((B.length : Nat) : Int)])) = .ok (plugS L way (B ++ { x with attrs := y.attrs } :: R)) := by
    unfold attE
    split
    · rename_i h
      have : ({ x with attrs := y.attrs } : Nd) = x := by rw [← (eql_iff eqAt_iff).1 h]; exact nd_eta x
      rw [this]; rfl
    · have := step_chg (x := ⟨3, way ++ [((B.length : Nat) : Int)], { (default : Nd) with attrs := x.attrs }, { (default : Nd) with attrs := y.attrs }⟩) rfl (steps_plug (B ++ x :: R) h0) (hj x) (.inl rfl) (by rw [hg]; exact eql_self eqAt_self _)
      rw [apply_cons_ok this, plug_plug _ _ h0, set_mid, hg]; rfl
  have s2 : applyS (plugS L way (B ++ { x with attrs := y.attrs } :: R)) (txtE x y (way ++ [((B.length : Nat) : Int)])) = .ok (plugS L way (B ++ { x with attrs := y.attrs, text := y.text } :: R)) := by
    unfold txtE
    split
    · rename_i h
      have : ({ x with attrs := y.attrs, text := y.text } : Nd) = { x with attrs := y.attrs } := by rw [← eqS_iff.1 h]
      rw [this]; rfl
    · have := step_chg (x := ⟨4, way ++ [((B.length : Nat) : Int)], { (default : Nd) with text := x.text }, { (default : Nd) with text := y.text }⟩) rfl (steps_plug (B ++ { x with attrs := y.attrs } :: R) h0) (hj _) (.inr rfl) (by rw [hg]; exact eqS_self _)
      rw [apply_cons_ok this, plug_plug _ _ h0, set_mid, hg]; rfl
  unfold alikeE
  rw [List.append_assoc, apply_app_ok s1, apply_app_ok s2]
  have hs := steps_plug (B ++ { x with attrs := y.attrs, text := y.text } :: R) h0
  have h3 := steps_snoc hs (hj _)
  rw [hg] at h3
  rw [hrec _ _ h3, plug_snoc _ hs (hj _), hg, set_mid, plug_plug _ _ h0]
  have : ({ x with attrs := y.attrs, text := y.text, kids := y.kids } : Nd) = y := by
    cases x; cases y
    simp only at k1 k2 k3
    subst k1; subst k2; subst k3; rfl
  rw [this]
theorem apply_gen {rec_ : List Nd → List Nd → List Int → List Ed} {a b : List Nd} (h0 : stepsW L way = some C0)
    (hrec : ∀ i (y : List Nd) (M : List Nd) (w : List Int), i < a.length → stepsW M w = some (a.getD i default).kids → applyS M (rec_ (a.getD i default).kids y w) = .ok (plugS M w y)) : ∀ {ps : List Pr} {i j : Nat}, RiseL (eN a b) (lN a b) a.length b.length i j ps → i ≤ a.length → j ≤ b.length →
    applyS (plugS L way (b.take j ++ a.drop i)) (genE rec_ a b way ps i j) = .ok (plugS L way b)
  | [], i, j, _, hi, hj => by
    have hl : (b.take j).length = j := by rw [List.length_take]; omega
    have d := apply_dels a (b.take j) h0 (a.length - i) i (by omega)
    rw [hl, show i + (a.length - i) = a.length by omega, List.drop_length] at d
    have q := apply_inss b [] h0 (b.length - j) j (by omega)
    rw [show j + (b.length - j) = b.length by omega, List.take_length] at q
    rw [genE, apply_app_ok d, q, List.append_nil]
  | p :: ps, i, j, hr, hi, hj => by
    obtain ⟨x, y, w, rfl, h1, h2, h3, h4, h5, h6, h7⟩ := hr
    have hl : (b.take j).length = j := by rw [List.length_take]; omega
    have d := apply_dels a (b.take j) h0 (x - i) i (by omega)
    rw [hl, show i + (x - i) = x by omega] at d
    have q := apply_inss b (a.drop x) h0 (y - j) j (by omega)
    rw [show j + (y - j) = y by omega] at q
    have hly : (b.take y).length = y := by rw [List.length_take]; omega
    rw [genE]
    simp only [Int.toNat_natCast]
    rw [List.append_assoc, List.append_assoc, apply_app_ok d, apply_app_ok q]
    have nxt := apply_gen h0 hrec h7 (by omega) (by omega)
    have eb : b.take (y + 1) ++ a.drop (x + 1) = b.take y ++ b[y] :: a.drop (x + 1) := by rw [← take_get h4, List.append_assoc]; rfl
    rw [eb] at nxt
    rw [List.drop_eq_getElem_cons h3]
    cases w with
    | true =>
      have : a[x] = b[y] := by
        have := h5 rfl
        unfold eN at this
        rw [getD_at h3, getD_at h4] at this
        exact (eqNd_iff _ _).1 this
      rw [this]
      exact nxt
    | false =>
      have al := apply_alike (rec_ := rec_) (b.take y) (a.drop (x + 1)) a[x] b[y] h0 (by
        have := h6 rfl
        unfold lN at this
        rw [getD_at h3, getD_at h4] at this
        exact this) (fun M w hM => by
          have := hrec x b[y].kids M w h3
          rw [getD_at h3] at this
          exact this hM)
      rw [hly] at al
      simp only [Bool.false_eq_true, if_false]
      rw [getD_at h3, getD_at h4, apply_app_ok al]
      exact nxt
end
theorem apply_script : ∀ (k : Nat) (a b : List Nd) (way : List Int) (L : List Nd), dpNds a < k → stepsW L way = some a → applyS L (scriptF k a b way) = .ok (plugS L way b)
  | 0, _, _, _, _, h, _ => by omega
  | k + 1, a, b, way, L, h, hs => by
    have := apply_gen (L := L) (way := way) (rec_ := scriptF k) (a := a) (b := b) hs (fun i y M w hi hM => apply_script k _ y w M (by have := dp_kids hi; omega) hM) (pairs_rise a b) (Nat.zero_le _) (Nat.zero_le _)
    rw [List.take_zero, List.drop_zero, List.nil_append, plug_self hs] at this
    rw [scriptF]; exact this
/-- THE SCRIPT FROM A TO B, APPLIED TO A, IS B. -/
theorem script_makes (a b : List Nd) : applyS a (scriptS a b []) = .ok b := apply_script _ a b [] a (Nat.lt_succ_self _) rfl
/-- The script of a list with itself is empty. -/
theorem gaps_self {lab : Nat → Nat → Bool} {n : Nat} : ∀ (k i : Nat), i + k = n → gapsS lab n n ((List.range' i k).map fun k : Nat => (⟨k, k, true⟩ : Pr)) i i = (List.range' i k).map fun k : Nat => (⟨k, k, true⟩ : Pr)
  | 0, i, h => by
    have : n - i = 0 := by omega
    show gapsS lab n n [] i i = []
    rw [gapsS, this]; rfl
  | k + 1, i, h => by
    rw [List.range'_succ, List.map_cons, gapsS]
    simp only [Int.toNat_natCast, Nat.sub_self, alikeS, List.nil_append]
    rw [gaps_self k (i + 1) (by omega)]
theorem gen_self {rec_ : List Nd → List Nd → List Int → List Ed} {a : List Nd} {way : List Int} : ∀ (k i : Nat), i + k = a.length → genE rec_ a a way ((List.range' i k).map fun k : Nat => (⟨k, k, true⟩ : Pr)) i i = []
  | 0, i, h => by
    have : a.length - i = 0 := by omega
    show genE rec_ a a way [] i i = []
    rw [genE, this]; rfl
  | k + 1, i, h => by
    rw [List.range'_succ, List.map_cons, genE]
    simp only [Int.toNat_natCast, Nat.sub_self, delsE, inssE, List.nil_append, if_true]
    exact gen_self k (i + 1) (by omega)
theorem script_self (a : List Nd) : scriptS a a [] = [] := by
  unfold scriptS
  rw [scriptF]
  have e : pairsS a a = (List.range' 0 a.length).map fun k : Nat => (⟨k, k, true⟩ : Pr) := by
    unfold pairsS wholeS
    rw [lineF_self (fun i _ => eqNd_self _) _ _ (by omega) (Nat.zero_le _), Nat.sub_zero]
    exact gaps_self a.length 0 (by omega)
  rw [e]
  exact gen_self a.length 0 (by omega)
theorem script_nil {a b : List Nd} : scriptS a b [] = [] ↔ a = b := by
  constructor
  · intro h
    have := script_makes a b
    rw [h] at this
    injection this
  · rintro rfl; exact script_self a
end Go.Proofs.Ytmkjjopflncedaa.AXP
end
section
namespace Go.Proofs.Ytmkjjopflncedaa.AXP
open Go Go.Proofs.Ytmkjjopflncedaa.AX
/-- A number's digits. -/
def dgL : Nat → Nat → List UInt8
  | 0, n => [UInt8.ofNat (48 + n % 10)]
  | f + 1, n => if n < 10 then [UInt8.ofNat (48 + n)] else dgL f (n / 10) ++ [UInt8.ofNat (48 + n % 10)]
/-- All but the mark behind them. -/
def diL (n : Int) : List UInt8 := if n < 0 then 45 :: dgL (-n - 1).toNat (-n - 1).toNat else dgL n.toNat n.toNat
def digS (n : Int) : ByteArray := ⟨(diL n ++ [46]).toArray⟩
def txtS (s : ByteArray) : ByteArray := digS s.size ++ s
def attsS : List At → ByteArray
  | [] => ⟨#[]⟩
  | a :: l => txtS a.name ++ txtS a.value ++ attsS l
mutual
def keyS : Nd → ByteArray
  | ⟨k, s, n, a, t, c⟩ => digS k ++ digS s ++ txtS n ++ txtS t ++ digS a.length ++ attsS a ++ digS c.length ++ keysS c
def keysS : List Nd → ByteArray
  | [] => ⟨#[]⟩
  | n :: l => keyS n ++ keysS l
end
def labS (n : Nd) : ByteArray := digS n.kind ++ digS n.space ++ n.name
/-- A text's bytes. -/
def kd (b : ByteArray) : List UInt8 := b.data.toList
theorem kd_app (a b : ByteArray) : kd (a ++ b) = kd a ++ kd b := by
  unfold kd; rw [ByteArray.data_append, Array.toList_append]
theorem kd_inj {a b : ByteArray} (h : kd a = kd b) : a = b := by
  cases a; cases b
  congr 1
  exact Array.toList_inj.1 h
theorem kd_size (a : ByteArray) : (kd a).length = a.size := by unfold kd; rw [Array.length_toList]; rfl
theorem kd_dig (n : Int) : kd (digS n) = diL n ++ [46] := rfl
theorem kd_txt (s : ByteArray) : kd (txtS s) = diL s.size ++ [46] ++ kd s := by unfold txtS; rw [kd_app, kd_dig]
def valL (l : List UInt8) : Nat := l.foldl (fun v d => v * 10 + (d.toNat - 48)) 0
theorem valL_snoc (l : List UInt8) (d : UInt8) : valL (l ++ [d]) = valL l * 10 + (d.toNat - 48) := by unfold valL; rw [List.foldl_append]; rfl
theorem d48 {n : Nat} (h : n < 10) : (UInt8.ofNat (48 + n)).toNat = 48 + n := by
  rw [UInt8.toNat_ofNat']; exact Nat.mod_eq_of_lt (by omega)
theorem dgL_val : ∀ (f n : Nat), n ≤ f → valL (dgL f n) = n
  | 0, n, h => by
    have : n = 0 := by omega
    subst this; rfl
  | f + 1, n, h => by
    rw [dgL]
    split
    · rename_i hn
      have := d48 hn
      show 0 * 10 + ((UInt8.ofNat (48 + n)).toNat - 48) = n
      rw [this]; omega
    · rw [valL_snoc, dgL_val f (n / 10) (by omega), d48 (Nat.mod_lt _ (by decide))]; omega
theorem dgL_mem : ∀ (f n : Nat), ∀ d ∈ dgL f n, 48 ≤ d.toNat ∧ d.toNat < 58
  | 0, n, d, h => by
    rw [dgL, List.mem_singleton] at h
    subst h
    have := Nat.mod_lt n (show 0 < 10 by decide)
    rw [d48 this]; omega
  | f + 1, n, d, h => by
    rw [dgL] at h
    split at h
    · rename_i hn
      rw [List.mem_singleton] at h
      subst h
      rw [d48 hn]; omega
    · rcases List.mem_append.1 h with h | h
      · exact dgL_mem f _ d h
      · rw [List.mem_singleton] at h
        subst h
        have := Nat.mod_lt n (show 0 < 10 by decide)
        rw [d48 this]; omega
theorem diL_mem (n : Int) : ∀ d ∈ diL n, d ≠ 46 := by
  intro d h e
  subst e
  unfold diL at h
  have key : ∀ f m : Nat, (46 : UInt8) ∉ dgL f m := fun f m hm => by
    have := dgL_mem f m _ hm
    exact absurd this.1 (by decide)
  split at h
  · cases h with
    | tail _ h => exact key _ _ h
  · exact key _ _ h
theorem diL_inj {n m : Int} (h : diL n = diL m) : n = m := by
  have hh : ∀ (f k : Nat) (l : List UInt8), dgL f k ≠ 45 :: l := fun f k l e => by
    have := dgL_mem f k 45 (by rw [e]; exact .head _)
    exact absurd this.1 (by decide)
  unfold diL at h
  split at h
  · split at h
    · injection h with _ h
      have := congrArg valL h
      rw [dgL_val _ _ (Nat.le_refl _), dgL_val _ _ (Nat.le_refl _)] at this
      omega
    · exact absurd h.symm (hh _ _ _)
  · split at h
    · exact absurd h (hh _ _ _)
    · have := congrArg valL h
      rw [dgL_val _ _ (Nat.le_refl _), dgL_val _ _ (Nat.le_refl _)] at this
      omega
theorem mark_split {p q r s : List UInt8} (hp : ∀ d ∈ p, d ≠ 46) (hq : ∀ d ∈ q, d ≠ 46) (h : p ++ 46 :: r = q ++ 46 :: s) : p = q ∧ r = s := by
  induction p generalizing q with
  | nil =>
    cases q with
    | nil => injection h with _ h; exact ⟨rfl, h⟩
    | cons y q => injection h with h _; exact absurd h.symm (hq y (.head _))
  | cons x p ih =>
    cases q with
    | nil => injection h with h _; exact absurd h (hp x (.head _))
    | cons y q =>
      injection h with h1 h2
      obtain ⟨h3, h4⟩ := ih (fun d hd => hp d (.tail _ hd)) (fun d hd => hq d (.tail _ hd)) h2
      exact ⟨by rw [h1, h3], h4⟩
theorem dig_split {n m : Int} {r s : List UInt8} (h : kd (digS n) ++ r = kd (digS m) ++ s) : n = m ∧ r = s := by
  rw [kd_dig, kd_dig, List.append_assoc, List.append_assoc] at h
  obtain ⟨h1, h2⟩ := mark_split (diL_mem n) (diL_mem m) h
  exact ⟨diL_inj h1, h2⟩
theorem txt_split {a b : ByteArray} {r s : List UInt8} (h : kd (txtS a) ++ r = kd (txtS b) ++ s) : a = b ∧ r = s := by
  unfold txtS at h
  rw [kd_app, kd_app, List.append_assoc, List.append_assoc] at h
  obtain ⟨h1, h2⟩ := dig_split h
  have hl : (kd a).length = (kd b).length := by rw [kd_size, kd_size]; omega
  obtain ⟨h3, h4⟩ := List.append_inj h2 hl
  exact ⟨kd_inj h3, h4⟩
theorem atts_split : ∀ {a b : List At} {r s : List UInt8}, a.length = b.length → kd (attsS a) ++ r = kd (attsS b) ++ s → a = b ∧ r = s
  | [], [], r, s, _, h => ⟨rfl, by simpa [attsS, kd] using h⟩
  | [], _ :: _, _, _, hl, _ => by simp at hl
  | _ :: _, [], _, _, hl, _ => by simp at hl
  | ⟨n, v⟩ :: a, ⟨n', v'⟩ :: b, r, s, hl, h => by
    rw [attsS, attsS, kd_app, kd_app, kd_app, kd_app] at h
    simp only [List.append_assoc] at h
    obtain ⟨h1, h⟩ := txt_split h
    obtain ⟨h2, h⟩ := txt_split h
    obtain ⟨h3, h⟩ := atts_split (by simpa using hl) h
    exact ⟨by rw [h1, h2, h3], h⟩
theorem keyS_eq (n : Nd) : keyS n = digS n.kind ++ digS n.space ++ txtS n.name ++ txtS n.text ++ digS n.attrs.length ++ attsS n.attrs ++ digS n.kids.length ++ keysS n.kids := by cases n; rw [keyS]
mutual
theorem key_split : ∀ (a b : Nd) {r s : List UInt8}, kd (keyS a) ++ r = kd (keyS b) ++ s → a = b ∧ r = s
  | ⟨k, sp, n, at_, t, c⟩, ⟨k', sp', n', at', t', c'⟩, r, s, h => by
    rw [keyS, keyS] at h
    simp only [kd_app, List.append_assoc] at h
    obtain ⟨h1, h⟩ := dig_split h
    obtain ⟨h2, h⟩ := dig_split h
    obtain ⟨h3, h⟩ := txt_split h
    obtain ⟨h4, h⟩ := txt_split h
    obtain ⟨h5, h⟩ := dig_split h
    obtain ⟨h6, h⟩ := atts_split (by omega) h
    obtain ⟨h7, h⟩ := dig_split h
    obtain ⟨h8, h⟩ := keys_split c c' (by omega) h
    exact ⟨by rw [h1, h2, h3, h4, h6, h8], h⟩
theorem keys_split : ∀ (a b : List Nd) {r s : List UInt8}, a.length = b.length → kd (keysS a) ++ r = kd (keysS b) ++ s → a = b ∧ r = s
  | [], [], r, s, _, h => ⟨rfl, by simpa [keysS, kd] using h⟩
  | [], _ :: _, _, _, hl, _ => by simp at hl
  | _ :: _, [], _, _, hl, _ => by simp at hl
  | x :: a, y :: b, r, s, hl, h => by
    rw [keysS, keysS, kd_app, kd_app, List.append_assoc, List.append_assoc] at h
    obtain ⟨h1, h⟩ := key_split x y h
    obtain ⟨h2, h⟩ := keys_split a b (by simpa using hl) h
    exact ⟨by rw [h1, h2], h⟩
end
theorem key_inj {a b : Nd} : keyS a = keyS b ↔ a = b :=
  ⟨fun h => (key_split a b (r := []) (s := []) (by rw [h])).1, fun h => by rw [h]⟩
theorem lab_inj {a b : Nd} : labS a = labS b ↔ (a.kind = b.kind ∧ a.space = b.space ∧ a.name = b.name) := by
  constructor
  · intro h
    have h := congrArg kd h
    unfold labS at h
    simp only [kd_app, List.append_assoc] at h
    obtain ⟨h1, h⟩ := dig_split h
    obtain ⟨h2, h⟩ := dig_split h
    exact ⟨h1, h2, kd_inj h⟩
  · rintro ⟨h1, h2, h3⟩
    unfold labS; rw [h1, h2, h3]
/-! ### How long they are -/
theorem dgL_len : ∀ (f n k : Nat), n < 10 ^ (k + 1) → n ≤ f → (dgL f n).length ≤ k + 1
  | 0, n, k, _, _ => by rw [dgL]; simp
  | f + 1, n, k, h, hf => by
    rw [dgL]
    split
    · simp
    · cases k with
      | zero => omega
      | succ k =>
        have := dgL_len f (n / 10) k (by rw [Nat.pow_succ] at h; omega) (by omega)
        simp only [List.length_append, List.length_cons, List.length_nil]; omega
theorem dig_size {n : Int} (h0 : -9223372036854775808 ≤ n) (h1 : n < 9223372036854775808) : (digS n).size ≤ 21 := by
  rw [← kd_size, kd_dig, List.length_append]
  unfold diL
  split
  · have := dgL_len (-n - 1).toNat (-n - 1).toNat 18 (by omega) (Nat.le_refl _)
    simp only [List.length_cons, List.length_nil]; omega
  · have := dgL_len n.toNat n.toNat 18 (by omega) (Nat.le_refl _)
    simp only [List.length_cons, List.length_nil]; omega
end Go.Proofs.Ytmkjjopflncedaa.AXP
end
section
namespace Go.Proofs.Ytmkjjopflncedaa.AXP
open Go Go.Proofs.Ytmkjjopflncedaa.AX
def inI (n : Int) : Prop := -9223372036854775808 ≤ n ∧ n < 9223372036854775808
mutual
def rngNd : Nd → Prop
  | ⟨k, s, _, _, _, c⟩ => inI k ∧ inI s ∧ rngNds c
def rngNds : List Nd → Prop
  | [] => True
  | n :: l => rngNd n ∧ rngNds l
end
def rngEd (x : Ed) : Prop := inI x.what ∧ (∀ n ∈ x.way, inI n) ∧ rngNd x.old ∧ rngNd x.new
def rngEds (s : List Ed) : Prop := ∀ x ∈ s, rngEd x
theorem rngNds_of : ∀ {l : List Nd}, (∀ x ∈ l, rngNd x) → rngNds l
  | [], _ => by rw [rngNds]; trivial
  | x :: l, h => by rw [rngNds]; exact ⟨h x (.head _), rngNds_of fun y hy => h y (.tail _ hy)⟩
end Go.Proofs.Ytmkjjopflncedaa.AXP
end
section
namespace Go.Proofs.Ytmkjjopflncedaa.AXP
open Go Go.Proofs.Ytmkjjopflncedaa.AX
def mDig (n : Int) : Nat := if n < 0 then (-n - 1).toNat + 1 else n.toNat
/-- Texts behind a text. -/
def attsF (t : ByteArray) : List At → ByteArray
  | [] => t
  | a :: l => attsF (t ++ (txtS a.name ++ txtS a.value)) l
def keysF (t : ByteArray) : List Nd → ByteArray
  | [] => t
  | n :: l => keysF (t ++ keyS n) l
end Go.Proofs.Ytmkjjopflncedaa.AXP
namespace Go.Proofs.Ytmkjjopflncedaa.AX
open Go AXP
def conDigLt (k : Nat) : Con := conP [.int] fun (n : Int) => { pre := some (mDig n < k ∧ inI n), res := .str (digS n) }
noncomputable def cxDig (k : Nat) : Cx := cxT (tabLook [(111, conDigLt k)])
def conDig : Con := conP [.int] fun (n : Int) => { pre := some (inI n), res := .str (digS n) }
noncomputable def cxTxt : Cx := cxT (tabLook [(111, conDig)])
def conTxt : Con := conP [.str] fun (s : ByteArray) => { pre := some ((txtS s).size ≤ maxSl), res := .str (txtS s) }
def conLab : Con := conP [.agg .node] fun (n : Nd) => { pre := some (rngNd n ∧ (labS n).size ≤ maxSl), res := .str (labS n) }
noncomputable def conKeyLt (k : Nat) : Con := conP [.agg .node] fun (n : Nd) => { pre := some (szNds n.kids < k ∧ rngNd n ∧ (keyS n).size ≤ maxSl), res := .str (keyS n) }
noncomputable def cxKey (k : Nat) : Cx := cxT (tabLook [(111, conDig), (112, conTxt), (110, conWrite), (113, conString), (100, conKeyLt k)])
def lsKeyA : LS where
  keep := [(1, .as), (3, .as), (30, .as), (31, .as), (32, .as)]
  left := [(1, .as), (3, .as)]
  sum := fun vs bs K => match vs, bs with
    | [.ptr 0 0, .ptr 1 0, .row .attr a, .int .i64 m, .int .i64 i], [.box [.int .i64 c0, .int .i64 c1, .str c2, .row .attr c3, .str c4, .row .node c5], .bld t] => Rq (m = a.length ∧ i = 0 ∧ a.length ≤ maxSl ∧ (attsF t a).size ≤ maxSl) (K (.exit 0) [.ptr 0 0, .ptr 1 0] [.box [.int .i64 c0, .int .i64 c1, .str c2, .row .attr c3, .str c4, .row .node c5], .bld (attsF t a)])
    | _, _ => False
noncomputable def lsKeyB (k : Nat) : LS where
  keep := [(3, .as), (51, .as), (52, .as), (53, .as)]
  left := [(3, .as)]
  sum := fun vs bs K => match vs, bs with
    | [.ptr 0 0, .row .node c, .int .i64 m, .int .i64 i], [.bld t] => Rq (m = c.length ∧ i = 0 ∧ c.length ≤ maxSl ∧ (∀ n ∈ c, szNds n.kids < k ∧ rngNd n) ∧ (keysF t c).size ≤ maxSl) (K (.exit 2) [.ptr 0 0] [.bld (keysF t c)])
    | _, _ => False
noncomputable def conKey : Con := conP [.agg .node] fun (n : Nd) => { pre := some (rngNd n ∧ (keyS n).size ≤ maxSl), res := .str (keyS n) }
noncomputable def cxTexts : Cx := cxT (tabLook [(100, conKey), (101, conLab)])
noncomputable def lsTexts (f : Nat) (P : Nd → Prop) (g : Nd → ByteArray) : LS where
  keep := [(1, .as), (5, .own .str), (8, .as), (9, .as), (10, .as)]
  left := [(5, .own .str)]
  sum := fun vs bs K => match vs, bs with
    | [.fn f' [], .own 0 0, .row .node l, .int .i64 m, .int .i64 i], [.rowb 0 .str out] => Rq (f' = f ∧ m = l.length ∧ i = 0 ∧ out.length = 0 ∧ l.length * 16 ≤ maxSl ∧ ∀ n ∈ l, P n) (K (.exit 0) [.own 0 0] [.rowb 0 .str (l.map g)])
    | _, _ => False
def PKey (n : Nd) : Prop := rngNd n ∧ (keyS n).size ≤ maxSl
def PLab (n : Nd) : Prop := rngNd n ∧ (labS n).size ≤ maxSl
def conTextsK : Con := conP [.row .node, .fn 100] fun (l : List Nd) _ => { pre := some (l.length * 16 ≤ maxSl ∧ ∀ n ∈ l, PKey n), res := .own 0 0, extra := [.rowb 0 .str (l.map keyS)] }
def conTextsL : Con := conP [.row .node, .fn 101] fun (l : List Nd) _ => { pre := some (l.length * 16 ≤ maxSl ∧ ∀ n ∈ l, PLab n), res := .own 0 0, extra := [.rowb 0 .str (l.map labS)] }
end Go.Proofs.Ytmkjjopflncedaa.AX
end
section
namespace Go.Proofs.Ytmkjjopflncedaa.AX
open Go AXP
set_option maxRecDepth 100000
theorem vcDigF (k : Nat) (n : Int) (Q : List AV → List Blk → List Blk → Prop) : (funA (cxDig k) (LL Try.f111 []) Try.f111 [.int .i64 n] [] [] Q) = (
Br (decide (n < (0 : Int)))
  (Rq
    (mDig
          (IntKind.i64.wrap
            (↑(BitVec.ofInt IntKind.i64.bits (if IntKind.i64.signed = true then (-1 : Int) else IntKind.i64.max) ^^^
                    BitVec.ofInt IntKind.i64.bits n).toNat :
              Int)) <
        k ∧
      inI
        (IntKind.i64.wrap
          (↑(BitVec.ofInt IntKind.i64.bits (if IntKind.i64.signed = true then (-1 : Int) else IntKind.i64.max) ^^^
                  BitVec.ofInt IntKind.i64.bits n).toNat :
            Int)))
    (Rq
      ((ByteArray.mk (Array.mk [(45 : UInt8)])).size +
          (digS
              (IntKind.i64.wrap
                (↑(BitVec.ofInt IntKind.i64.bits (if IntKind.i64.signed = true then (-1 : Int) else IntKind.i64.max) ^^^
                        BitVec.ofInt IntKind.i64.bits n).toNat :
                  Int))).size ≤
        maxSl)
      (Q
        [AV.str
            (ByteArray.mk (Array.mk [(45 : UInt8)]) ++
              digS
                (IntKind.i64.wrap
                  (↑(BitVec.ofInt IntKind.i64.bits
                            (if IntKind.i64.signed = true then (-1 : Int) else IntKind.i64.max) ^^^
                          BitVec.ofInt IntKind.i64.bits n).toNat :
                    Int)))]
        [] [])))
  (Br (decide (n < (10 : Int)))
    (Rq ([IntKind.u8.wrap (IntKind.i64.wrap ((48 : Int) + n)), (46 : Int)].length ≤ maxSl)
      (Q [AV.str (strOf [IntKind.u8.wrap (IntKind.i64.wrap ((48 : Int) + n)), (46 : Int)])] [] []))
    (Rq ((10 : Int) ≠ (0 : Int))
      (Rq (mDig (IntKind.i64.wrap (n.tdiv (10 : Int))) < k ∧ inI (IntKind.i64.wrap (n.tdiv (10 : Int))))
        (Rq
          ((0 : Int) ≤ (0 : Int) ∧
            (0 : Int) ≤ IntKind.i64.wrap ((↑(digS (IntKind.i64.wrap (n.tdiv (10 : Int)))).size : Int) - (1 : Int)) ∧
              IntKind.i64.wrap ((↑(digS (IntKind.i64.wrap (n.tdiv (10 : Int)))).size : Int) - (1 : Int)) ≤
                (↑(digS (IntKind.i64.wrap (n.tdiv (10 : Int)))).size : Int))
          (Rq ((10 : Int) ≠ (0 : Int))
            (Rq ([IntKind.u8.wrap (IntKind.i64.wrap ((48 : Int) + n.tmod (10 : Int))), (46 : Int)].length ≤ maxSl)
              (Rq
                (((digS (IntKind.i64.wrap (n.tdiv (10 : Int)))).extract (Int.toNat (0 : Int))
                        (IntKind.i64.wrap
                            ((↑(digS (IntKind.i64.wrap (n.tdiv (10 : Int)))).size : Int) - (1 : Int))).toNat).size +
                    (strOf [IntKind.u8.wrap (IntKind.i64.wrap ((48 : Int) + n.tmod (10 : Int))), (46 : Int)]).size ≤
                  maxSl)
                (Gv ((digS (IntKind.i64.wrap (n.tdiv (10 : Int)))).size ≤ maxSl)
                  (Q
                    [AV.str
                        ((digS (IntKind.i64.wrap (n.tdiv (10 : Int)))).extract (Int.toNat (0 : Int))
                            (IntKind.i64.wrap
                                ((↑(digS (IntKind.i64.wrap (n.tdiv (10 : Int)))).size : Int) - (1 : Int))).toNat ++
                          strOf [IntKind.u8.wrap (IntKind.i64.wrap ((48 : Int) + n.tmod (10 : Int))), (46 : Int)])]
                    [] [])))))))))) := by kernel_rfl
theorem vcTxtF (s : ByteArray) (Q : List AV → List Blk → List Blk → Prop) : (funA cxTxt (LL Try.f112 []) Try.f112 [.str s] [] [] Q) = (
Rq (inI (↑s.size : Int))
  (Rq ((digS (↑s.size : Int)).size + s.size ≤ maxSl)
    (Gv (s.size ≤ maxSl) (Q [AV.str (digS (↑s.size : Int) ++ s)] [] [])))) := by kernel_rfl
theorem vcLabF (n : Nd) (Q : List AV → List Blk → List Blk → Prop) : (funA cxTxt (LL Try.f101 []) Try.f101 [.agg (nodeL n)] [] [] Q) = (
Rq (inI n.1)
  (Rq (inI n.2)
    (Rq ((digS n.1).size + (digS n.2).size ≤ maxSl)
      (Rq ((digS n.1 ++ digS n.2).size + n.3.size ≤ maxSl) (Q [AV.str (digS n.1 ++ digS n.2 ++ n.3)] [] []))))) := by kernel_rfl
theorem vcKeyA (k : Nat) (n : Nd) (t : ByteArray) (a : List At) (m i : Int) (K : Ex → List AV → List Blk → Prop) : (bodyA (cxKey k) (LL Try.f100 [lsKeyA, lsKeyB k]) Try.f100.ntmps (loopAt Try.f100 0).1 (loopAt Try.f100 0).2 lsKeyA.keep lsKeyA.left K [.ptr 0 0, .ptr 1 0, .row .attr a, .int .i64 m, .int .i64 i] [.box (nodeL n), .bld t]) = (
Br (decide (i < m))
  (Rq ((0 : Int) ≤ i ∧ i < (↑a.length : Int))
    (Rq ((txtS (rd Ty.attr a i).1).size ≤ maxSl)
      (Rq ((txtS (rd Ty.attr a i).2).size ≤ maxSl)
        (Rq ((txtS (rd Ty.attr a i).1).size + (txtS (rd Ty.attr a i).2).size ≤ maxSl)
          (Rq (t.size + (txtS (rd Ty.attr a i).1 ++ txtS (rd Ty.attr a i).2).size ≤ maxSl)
            (K Ex.norm
              [AV.ptr (0 : Nat) (0 : Nat), AV.ptr ((0 : Nat) + (1 : Nat)) (0 : Nat), AV.row Ty.attr a,
                AV.int IntKind.i64 m, AV.int IntKind.i64 (IntKind.i64.wrap (i + (1 : Int)))]
              [Blk.box
                  [AV.int IntKind.i64 n.1, AV.int IntKind.i64 n.2, AV.str n.3, AV.row Ty.attr n.4, AV.str n.5,
                    AV.row Ty.node n.6],
                Blk.bld (t ++ (txtS (rd Ty.attr a i).1 ++ txtS (rd Ty.attr a i).2))]))))))
  (K (Ex.exit (0 : Nat)) [AV.ptr (0 : Nat) (0 : Nat), AV.ptr ((0 : Nat) + (1 : Nat)) (0 : Nat)]
    [Blk.box
        [AV.int IntKind.i64 n.1, AV.int IntKind.i64 n.2, AV.str n.3, AV.row Ty.attr n.4, AV.str n.5,
          AV.row Ty.node n.6],
      Blk.bld t])) := by kernel_rfl
theorem vcKeyB (k : Nat) (t : ByteArray) (c : List Nd) (m i : Int) (K : Ex → List AV → List Blk → Prop) : (bodyA (cxKey k) (LL Try.f100 [lsKeyA, lsKeyB k]) Try.f100.ntmps (loopAt Try.f100 1).1 (loopAt Try.f100 1).2 (lsKeyB k).keep (lsKeyB k).left K [.ptr 0 0, .row .node c, .int .i64 m, .int .i64 i] [.bld t]) = (
Br (decide (i < m))
  (Rq ((0 : Int) ≤ i ∧ i < (↑c.length : Int))
    (Rq
      (szNds (rd Ty.node c i).6 < k ∧
        rngNd
            (Nd.mk (rd Ty.node c i).1 (rd Ty.node c i).2 (rd Ty.node c i).3 (rd Ty.node c i).4 (rd Ty.node c i).5
              (rd Ty.node c i).6) ∧
          (keyS
                (Nd.mk (rd Ty.node c i).1 (rd Ty.node c i).2 (rd Ty.node c i).3 (rd Ty.node c i).4 (rd Ty.node c i).5
                  (rd Ty.node c i).6)).size ≤
            maxSl)
      (Rq
        (t.size +
            (keyS
                (Nd.mk (rd Ty.node c i).1 (rd Ty.node c i).2 (rd Ty.node c i).3 (rd Ty.node c i).4 (rd Ty.node c i).5
                  (rd Ty.node c i).6)).size ≤
          maxSl)
        (K Ex.norm
          [AV.ptr (0 : Nat) (0 : Nat), AV.row Ty.node c, AV.int IntKind.i64 m,
            AV.int IntKind.i64 (IntKind.i64.wrap (i + (1 : Int)))]
          [Blk.bld
              (t ++
                keyS
                  (Nd.mk (rd Ty.node c i).1 (rd Ty.node c i).2 (rd Ty.node c i).3 (rd Ty.node c i).4 (rd Ty.node c i).5
                    (rd Ty.node c i).6))]))))
  (K (Ex.exit (2 : Nat)) [AV.ptr (0 : Nat) (0 : Nat)] [Blk.bld t])) := by kernel_rfl
theorem vcKeyF (k : Nat) (n : Nd) (Q : List AV → List Blk → List Blk → Prop) : (funA (cxKey k) (LL Try.f100 [lsKeyA, lsKeyB k]) Try.f100 [.agg (nodeL n)] [] [] Q) = (
Rq (inI n.1)
  (Rq (inI n.2)
    (Rq ((digS n.1).size + (digS n.2).size ≤ maxSl)
      (Rq ((txtS n.3).size ≤ maxSl)
        (Rq ((digS n.1 ++ digS n.2).size + (txtS n.3).size ≤ maxSl)
          (Rq ((txtS n.5).size ≤ maxSl)
            (Rq ((digS n.1 ++ digS n.2 ++ txtS n.3).size + (txtS n.5).size ≤ maxSl)
              (Rq (inI (↑n.4.length : Int))
                (Rq ((digS n.1 ++ digS n.2 ++ txtS n.3 ++ txtS n.5).size + (digS (↑n.4.length : Int)).size ≤ maxSl)
                  (Rq
                    ((ByteArray.mk (Array.mk [])).size +
                        (digS n.1 ++ digS n.2 ++ txtS n.3 ++ txtS n.5 ++ digS (↑n.4.length : Int)).size ≤
                      maxSl)
                    (Gv (n.4.length ≤ maxSl)
                      (Gv (n.4.length ≤ maxSl)
                        (Rq
                          ((↑n.4.length : Int) = (↑n.4.length : Int) ∧
                            (0 : Int) = (0 : Int) ∧
                              n.4.length ≤ maxSl ∧
                                (attsF
                                      (ByteArray.mk (Array.mk []) ++
                                        (digS n.1 ++ digS n.2 ++ txtS n.3 ++ txtS n.5 ++ digS (↑n.4.length : Int)))
                                      n.4).size ≤
                                  maxSl)
                          (Rq (inI (↑n.6.length : Int))
                            (Rq
                              ((attsF
                                      (ByteArray.mk (Array.mk []) ++
                                        (digS n.1 ++ digS n.2 ++ txtS n.3 ++ txtS n.5 ++ digS (↑n.4.length : Int)))
                                      n.4).size +
                                  (digS (↑n.6.length : Int)).size ≤
                                maxSl)
                              (Gv (n.6.length ≤ maxSl)
                                (Gv (n.6.length ≤ maxSl)
                                  (Rq
                                    ((↑n.6.length : Int) = (↑n.6.length : Int) ∧
                                      (0 : Int) = (0 : Int) ∧
                                        n.6.length ≤ maxSl ∧
                                          (∀ (n_1 : den Ty.node), n_1 ∈ n.kids → szNds n_1.kids < k ∧ rngNd n_1) ∧
                                            (keysF
                                                  (attsF
                                                      (ByteArray.mk (Array.mk []) ++
                                                        (digS n.1 ++ digS n.2 ++ txtS n.3 ++ txtS n.5 ++
                                                          digS (↑n.4.length : Int)))
                                                      n.4 ++
                                                    digS (↑n.6.length : Int))
                                                  n.6).size ≤
                                              maxSl)
                                    (Rq
                                      ((keysF
                                            (attsF
                                                (ByteArray.mk (Array.mk []) ++
                                                  (digS n.1 ++ digS n.2 ++ txtS n.3 ++ txtS n.5 ++
                                                    digS (↑n.4.length : Int)))
                                                n.4 ++
                                              digS (↑n.6.length : Int))
                                            n.6).size ≤
                                        maxSl)
                                      (Q
                                        [AV.str
                                            (keysF
                                              (attsF
                                                  (ByteArray.mk (Array.mk []) ++
                                                    (digS n.1 ++ digS n.2 ++ txtS n.3 ++ txtS n.5 ++
                                                      digS (↑n.4.length : Int)))
                                                  n.4 ++
                                                digS (↑n.6.length : Int))
                                              n.6)]
                                        [] [])))))))))))))))))))) := by kernel_rfl
theorem vcTextsKB (out : List ByteArray) (l : List Nd) (m i : Int) (K : Ex → List AV → List Blk → Prop) : (bodyA cxTexts (LL Try.f99 [lsTexts 100 PKey keyS]) Try.f99.ntmps (loopAt Try.f99 0).1 (loopAt Try.f99 0).2 (lsTexts 100 PKey keyS).keep (lsTexts 100 PKey keyS).left K [.fn 100 [], .own 0 0, .row .node l, .int .i64 m, .int .i64 i] [.rowb 0 .str out]) = (
Br (decide (i < m))
  (Rq ((0 : Int) ≤ i ∧ i < (↑l.length : Int))
    (Rq
      (rngNd
          (Nd.mk (rd Ty.node l i).1 (rd Ty.node l i).2 (rd Ty.node l i).3 (rd Ty.node l i).4 (rd Ty.node l i).5
            (rd Ty.node l i).6) ∧
        (keyS
              (Nd.mk (rd Ty.node l i).1 (rd Ty.node l i).2 (rd Ty.node l i).3 (rd Ty.node l i).4 (rd Ty.node l i).5
                (rd Ty.node l i).6)).size ≤
          maxSl)
      (Rq
        ((out.length +
              [keyS
                    (Nd.mk (rd Ty.node l i).1 (rd Ty.node l i).2 (rd Ty.node l i).3 (rd Ty.node l i).4
                      (rd Ty.node l i).5 (rd Ty.node l i).6)].length) *
            (16 : Nat) ≤
          maxSl)
        (K Ex.norm
          [AV.fn (100 : Nat) [], AV.own (0 : Nat) (0 : Nat), AV.row Ty.node l, AV.int IntKind.i64 m,
            AV.int IntKind.i64 (IntKind.i64.wrap (i + (1 : Int)))]
          [Blk.rowb (0 : Nat) Ty.str
              (out ++
                [keyS
                    (Nd.mk (rd Ty.node l i).1 (rd Ty.node l i).2 (rd Ty.node l i).3 (rd Ty.node l i).4
                      (rd Ty.node l i).5 (rd Ty.node l i).6)])]))))
  (K (Ex.exit (0 : Nat)) [AV.own (0 : Nat) (0 : Nat)] [Blk.rowb (0 : Nat) Ty.str out])) := by kernel_rfl
theorem vcTextsKF (l : List Nd) (Q : List AV → List Blk → List Blk → Prop) : (funA cxTexts (LL Try.f99 [lsTexts 100 PKey keyS]) Try.f99 [.row .node l, .fn 100 []] [] [.own .str] Q) = (
Gv (l.length ≤ maxSl)
  (Rq
    ((100 : Nat) = (100 : Nat) ∧
      (↑l.length : Int) = (↑l.length : Int) ∧
        (0 : Int) = (0 : Int) ∧
          (0 : Nat) = (0 : Nat) ∧ l.length * (16 : Nat) ≤ maxSl ∧ ∀ (n : den Ty.node), n ∈ l → PKey n)
    (Q [AV.own (0 : Nat) (0 : Nat)] [] [Blk.rowb (0 : Nat) Ty.str (List.map keyS l)]))) := by kernel_rfl
theorem vcTextsLB (out : List ByteArray) (l : List Nd) (m i : Int) (K : Ex → List AV → List Blk → Prop) : (bodyA cxTexts (LL Try.f99 [lsTexts 101 PLab labS]) Try.f99.ntmps (loopAt Try.f99 0).1 (loopAt Try.f99 0).2 (lsTexts 101 PLab labS).keep (lsTexts 101 PLab labS).left K [.fn 101 [], .own 0 0, .row .node l, .int .i64 m, .int .i64 i] [.rowb 0 .str out]) = (
Br (decide (i < m))
  (Rq ((0 : Int) ≤ i ∧ i < (↑l.length : Int))
    (Rq
      (rngNd
          (Nd.mk (rd Ty.node l i).1 (rd Ty.node l i).2 (rd Ty.node l i).3 (rd Ty.node l i).4 (rd Ty.node l i).5
            (rd Ty.node l i).6) ∧
        (labS
              (Nd.mk (rd Ty.node l i).1 (rd Ty.node l i).2 (rd Ty.node l i).3 (rd Ty.node l i).4 (rd Ty.node l i).5
                (rd Ty.node l i).6)).size ≤
          maxSl)
      (Rq
        ((out.length +
              [labS
                    (Nd.mk (rd Ty.node l i).1 (rd Ty.node l i).2 (rd Ty.node l i).3 (rd Ty.node l i).4
                      (rd Ty.node l i).5 (rd Ty.node l i).6)].length) *
            (16 : Nat) ≤
          maxSl)
        (K Ex.norm
          [AV.fn (101 : Nat) [], AV.own (0 : Nat) (0 : Nat), AV.row Ty.node l, AV.int IntKind.i64 m,
            AV.int IntKind.i64 (IntKind.i64.wrap (i + (1 : Int)))]
          [Blk.rowb (0 : Nat) Ty.str
              (out ++
                [labS
                    (Nd.mk (rd Ty.node l i).1 (rd Ty.node l i).2 (rd Ty.node l i).3 (rd Ty.node l i).4
                      (rd Ty.node l i).5 (rd Ty.node l i).6)])]))))
  (K (Ex.exit (0 : Nat)) [AV.own (0 : Nat) (0 : Nat)] [Blk.rowb (0 : Nat) Ty.str out])) := by kernel_rfl
theorem vcTextsLF (l : List Nd) (Q : List AV → List Blk → List Blk → Prop) : (funA cxTexts (LL Try.f99 [lsTexts 101 PLab labS]) Try.f99 [.row .node l, .fn 101 []] [] [.own .str] Q) = (
Gv (l.length ≤ maxSl)
  (Rq
    ((101 : Nat) = (101 : Nat) ∧
      (↑l.length : Int) = (↑l.length : Int) ∧
        (0 : Int) = (0 : Int) ∧
          (0 : Nat) = (0 : Nat) ∧ l.length * (16 : Nat) ≤ maxSl ∧ ∀ (n : den Ty.node), n ∈ l → PLab n)
    (Q [AV.own (0 : Nat) (0 : Nat)] [] [Blk.rowb (0 : Nat) Ty.str (List.map labS l)]))) := by kernel_rfl
end Go.Proofs.Ytmkjjopflncedaa.AX
end
section
namespace Go.Proofs.Ytmkjjopflncedaa.AXP
open Go Go.Proofs.Ytmkjjopflncedaa.AX
theorem dgL_fuel : ∀ (f f' n : Nat), n ≤ f → n ≤ f' → dgL f n = dgL f' n
  | 0, 0, n, _, _ => rfl
  | 0, f' + 1, n, h, _ => by
    have : n = 0 := by omega
    subst this; rfl
  | f + 1, 0, n, _, h => by
    have : n = 0 := by omega
    subst this; rfl
  | f + 1, f' + 1, n, h, h' => by
    rw [dgL, dgL]
    split
    · rfl
    · rw [dgL_fuel f f' (n / 10) (by omega) (by omega)]
theorem strOf2 (a b : Int) : strOf [a, b] = ⟨#[UInt8.ofNat a.toNat, UInt8.ofNat b.toNat]⟩ := rfl
theorem u8dig {n : Int} (h0 : 0 ≤ n) (h1 : n < 10) : IntKind.u8.wrap (IntKind.i64.wrap (48 + n)) = 48 + n := by
  rw [wrap_id' (by omega) (by omega), IntKind.wrap_u8]; omega
theorem dig_small {n : Int} (h0 : 0 ≤ n) (h1 : n < 10) : strOf [IntKind.u8.wrap (IntKind.i64.wrap (48 + n)), 46] = digS n := by
  rw [u8dig h0 h1, strOf2]
  unfold digS diL
  rw [if_neg (by omega)]
  have : dgL n.toNat n.toNat = [UInt8.ofNat (48 + n.toNat)] := by
    cases hk : n.toNat with
    | zero => rfl
    | succ m => rw [dgL, if_pos (by omega)]
  rw [this, show (48 + n).toNat = 48 + n.toNat by omega]; rfl
theorem dig_neg {n : Int} (h : n < 0) : (⟨#[45]⟩ : ByteArray) ++ digS (-n - 1) = digS n := by
  apply kd_inj
  rw [kd_app, kd_dig, kd_dig]
  have e1 : diL n = 45 :: dgL (-n - 1).toNat (-n - 1).toNat := by unfold diL; rw [if_pos h]
  have e2 : diL (-n - 1) = dgL (-n - 1).toNat (-n - 1).toNat := by unfold diL; rw [if_neg (by omega)]
  rw [e1, e2]; rfl
theorem dig_big {n : Int} (h : 10 ≤ n) : (digS (n / 10)).extract 0 ((digS (n / 10)).size - 1) ++ strOf [IntKind.u8.wrap (IntKind.i64.wrap (48 + n % 10)), 46] = digS n := by
  have h0 : 0 ≤ n % 10 := Int.emod_nonneg _ (by decide)
  have h1 : n % 10 < 10 := Int.emod_lt_of_pos _ (by decide)
  rw [u8dig h0 h1, strOf2]
  apply kd_inj
  rw [kd_app]
  have ed : diL n = dgL (n / 10).toNat (n / 10).toNat ++ [UInt8.ofNat (48 + (n % 10).toNat)] := by
    unfold diL
    rw [if_neg (by omega)]
    obtain ⟨m, rfl⟩ : ∃ m : Nat, n = m := ⟨n.toNat, by omega⟩
    have e1 : ((m : Int) / 10).toNat = m / 10 := by omega
    have e2 : ((m : Int) % 10).toNat = m % 10 := by omega
    rw [e1, e2, Int.toNat_natCast]
    obtain ⟨k, rfl⟩ : ∃ k, m = k + 1 := ⟨m - 1, by omega⟩
    rw [dgL, if_neg (by omega), dgL_fuel k ((k + 1) / 10) ((k + 1) / 10) (by omega) (Nat.le_refl _)]
  have ex : kd ((digS (n / 10)).extract 0 ((digS (n / 10)).size - 1)) = diL (n / 10) := by
    have hs : (digS (n / 10)).size = (diL (n / 10)).length + 1 := by rw [← kd_size, kd_dig, List.length_append]; rfl
    unfold kd
    rw [ByteArray.data_extract, Array.toList_extract, hs]
    show ((digS (n / 10)).data.toList.extract 0 _) = _
    have : (digS (n / 10)).data.toList = diL (n / 10) ++ [46] := kd_dig _
    rw [this]
    simp
  have ed2 : diL (n / 10) = dgL (n / 10).toNat (n / 10).toNat := by unfold diL; rw [if_neg (by omega)]
  rw [ex, kd_dig, ed, ed2, show (48 + n % 10).toNat = 48 + (n % 10).toNat by omega]
  show _ ++ [UInt8.ofNat (48 + (n % 10).toNat), UInt8.ofNat (46 : Int).toNat] = _
  rw [List.append_assoc]; rfl
theorem xor_neg {n : Int} (h : inI n) : IntKind.i64.wrap ((BitVec.ofInt IntKind.i64.bits (if IntKind.i64.signed = true then (-1 : Int) else IntKind.i64.max) ^^^ BitVec.ofInt IntKind.i64.bits n).toNat : Int) = -n - 1 := by
  unfold inI at h
  change IntKind.i64.wrap ((BitVec.ofInt 64 (-1) ^^^ BitVec.ofInt 64 n : BitVec 64).toNat : Int) = -n - 1
  have e : (BitVec.ofInt 64 (-1) ^^^ BitVec.ofInt 64 n : BitVec 64) = ~~~ BitVec.ofInt 64 n := by
    have : BitVec.ofInt 64 (-1) = BitVec.allOnes 64 := by decide
    rw [this]
    exact BitVec.allOnes_xor
  rw [e, BitVec.toNat_not, BitVec.toNat_ofInt]
  have hp : (2 : Int) ^ 64 = 18446744073709551616 := by decide
  rw [IntKind.wrap_i64]
  have hq : ((2 ^ 64 : Nat) : Int) = 18446744073709551616 := by decide
  rw [hq]
  omega
theorem dig_pos (n : Int) : 1 ≤ (digS n).size := by rw [← kd_size, kd_dig, List.length_append]; simp
theorem ba_assoc (a b c : ByteArray) : a ++ b ++ c = a ++ (b ++ c) := by
  apply kd_inj; simp only [kd_app, List.append_assoc]
theorem ba_nil (a : ByteArray) : (⟨#[]⟩ : ByteArray) ++ a = a := by
  apply kd_inj; rw [kd_app]; rfl
theorem ba_nil' (a : ByteArray) : a ++ (⟨#[]⟩ : ByteArray) = a := by
  apply kd_inj; rw [kd_app]; simp [kd]
theorem attsF_eq : ∀ (l : List At) (t : ByteArray), attsF t l = t ++ attsS l
  | [], t => by rw [attsF, attsS, ba_nil']
  | a :: l, t => by rw [attsF, attsS, attsF_eq l, ba_assoc]
theorem keysF_eq : ∀ (l : List Nd) (t : ByteArray), keysF t l = t ++ keysS l
  | [], t => by rw [keysF, keysS, ba_nil']
  | a :: l, t => by rw [keysF, keysS, keysF_eq l, ba_assoc]
theorem attsF_snoc : ∀ (l : List At) (t : ByteArray) (a : At), attsF t (l ++ [a]) = attsF t l ++ (txtS a.name ++ txtS a.value)
  | [], t, a => rfl
  | b :: l, t, a => by rw [List.cons_append, attsF, attsF, attsF_snoc l]
theorem keysF_snoc : ∀ (l : List Nd) (t : ByteArray) (a : Nd), keysF t (l ++ [a]) = keysF t l ++ keyS a
  | [], t, a => rfl
  | b :: l, t, a => by rw [List.cons_append, keysF, keysF, keysF_snoc l]
theorem attsF_app : ∀ (l m : List At) (t : ByteArray), attsF t (l ++ m) = attsF (attsF t l) m
  | [], m, t => rfl
  | b :: l, m, t => by rw [List.cons_append, attsF, attsF, attsF_app l]
theorem keysF_app : ∀ (l m : List Nd) (t : ByteArray), keysF t (l ++ m) = keysF (keysF t l) m
  | [], m, t => rfl
  | b :: l, m, t => by rw [List.cons_append, keysF, keysF, keysF_app l]
theorem rngNds_mem : ∀ {l : List Nd} {n : Nd}, rngNds l → n ∈ l → rngNd n
  | m :: l, n, h, hm => by
    rw [rngNds] at h
    cases hm with
    | head => exact h.1
    | tail _ hm => exact rngNds_mem h.2 hm
theorem rngNd_eq (n : Nd) : rngNd n ↔ inI n.kind ∧ inI n.space ∧ rngNds n.kids := by cases n; rw [rngNd]
end Go.Proofs.Ytmkjjopflncedaa.AXP
namespace Go.Proofs.Ytmkjjopflncedaa.AX
open Go AXP
set_option maxRecDepth 100000
theorem szNds_mem {l : List Nd} {n : Nd} (h : n ∈ l) : szNds n.kids < szNds l := by
  obtain ⟨i, hi, rfl⟩ := List.getElem_of_mem h
  exact szNds_kids hi
theorem inI_len {n : Nat} (h : n ≤ maxSl) : inI (n : Int) := by unfold maxSl at h; unfold inI; omega
theorem dig_lt : ∀ k, Holds 111 (conDigLt k)
  | 0 => conP_holds fun n => by
    intro F I w vals _ _ hpre
    exact absurd (hpre _ rfl).1 (Nat.not_lt_zero _)
  | k + 1 => conP_holds fun n => by
    rcases (show ∃ w : Int, w = n from ⟨_, rfl⟩) with ⟨n, rfl⟩
    refine fun_meets0 (AllH.tok (.cons (dig_lt k) (by kernel_rfl) .nil)) [] (by kernel_rfl) (by kernel_rfl) fun hpre => Eq.mpr (vcDigF k n _) ?_
    have hk : mDig n < k + 1 := (hpre _ rfl).1
    have hr : inI n := (hpre _ rfl).2
    rw [xor_neg hr]
    have hr' := hr
    unfold inI at hr'
    unfold mDig at hk
    refine ⟨fun h => ?_, fun h => ⟨fun h1 => ?_, fun h1 => ?_⟩⟩
    · have h : n < 0 := of_decide_eq_true h
      rw [if_pos h] at hk
      have hi : inI (-n - 1) := by unfold inI; omega
      refine ⟨⟨by unfold mDig; rw [if_neg (by omega)]; omega, hi⟩, ⟨?_, qfin rfl ?_ rfl rfl⟩⟩
      · have := dig_size (n := -n - 1) hi.1 hi.2
        show 1 + _ ≤ _
        unfold maxSl; omega
      · show [AV.str _] = [AV.str (digS n)]
        rw [dig_neg h]
    · have h : ¬ n < 0 := of_decide_eq_false h
      have h1 : n < 10 := of_decide_eq_true h1
      refine ⟨by show 2 ≤ maxSl; unfold maxSl; decide, qfin rfl ?_ rfl rfl⟩
      show [AV.str _] = [AV.str (digS n)]
      rw [dig_small (by omega) h1]
    · have h : ¬ n < 0 := of_decide_eq_false h
      have h1 : ¬ n < 10 := of_decide_eq_false h1
      have hd : n.tdiv 10 = n / 10 := Int.tdiv_eq_ediv_of_nonneg (by omega)
      have hm : n.tmod 10 = n % 10 := Int.tmod_eq_emod_of_nonneg (by omega)
      have hw : IntKind.i64.wrap (n / 10) = n / 10 := wrap_id' (by omega) (by omega)
      rw [hd, hm, hw]
      rw [if_neg h] at hk
      have hi : inI (n / 10) := by unfold inI; omega
      have hs := dig_size hi.1 hi.2
      have hp := dig_pos (n / 10)
      have hw2 : IntKind.i64.wrap (((digS (n / 10)).size : Int) - 1) = (((digS (n / 10)).size - 1 : Nat) : Int) := by rw [wrap_id'] <;> omega
      rw [hw2, Int.toNat_natCast]
      refine ⟨by decide, ⟨⟨by unfold mDig; rw [if_neg (by omega)]; omega, hi⟩, ⟨⟨by omega, by omega, by omega⟩, ⟨by decide, ⟨by show 2 ≤ maxSl; unfold maxSl; decide, ⟨?_, ⟨fun _ => qfin rfl ?_ rfl rfl⟩⟩⟩⟩⟩⟩⟩
      · have e : (strOf [IntKind.u8.wrap (IntKind.i64.wrap (48 + n % 10)), 46]).size = 2 := rfl
        rw [e, ByteArray.size_extract]
        unfold maxSl; omega
      · show [AV.str _] = [AV.str (digS n)]
        rw [← dig_big (show 10 ≤ n by omega)]; rfl
theorem dig_holds : Holds 111 conDig := conP_holds fun n => by
  intro F I w vals hH hv hpre
  exact dig_lt (mDig n + 1) [.int .i64 n] [] { pre := some (mDig n < mDig n + 1 ∧ inI n), res := .str (digS n) } rfl F I w vals hH hv (fun p hp => by injection hp with hp; subst hp; exact ⟨Nat.lt_succ_self _, hpre _ rfl⟩)
theorem tokTxt : TOK cxTxt := AllH.tok (.cons dig_holds (by kernel_rfl) .nil)
theorem txt_size (s : ByteArray) : (txtS s).size = (digS s.size).size + s.size := by unfold txtS; exact ByteArray.size_append
theorem txt_holds : Holds 112 conTxt := conP_holds fun s => by
  refine fun_meets0 tokTxt [] (by kernel_rfl) (by kernel_rfl) fun hpre => Eq.mpr (vcTxtF s _) ?_
  have h : (txtS s).size ≤ maxSl := hpre _ rfl
  rw [txt_size] at h
  exact ⟨inI_len (by omega), ⟨h, ⟨fun _ => qfin rfl rfl rfl rfl⟩⟩⟩
theorem lab_holds : Holds 101 conLab := conP_holds fun n => by
  refine fun_meets0 tokTxt [] (by kernel_rfl) (by kernel_rfl) fun hpre => Eq.mpr (vcLabF n _) ?_
  obtain ⟨h1, h2⟩ := hpre _ rfl
  rw [rngNd_eq] at h1
  unfold labS at h2
  simp only [ByteArray.size_append] at h2
  refine ⟨h1.1, ⟨h1.2.1, ⟨by omega, ⟨by rw [ByteArray.size_append]; omega, qfin rfl rfl rfl rfl⟩⟩⟩⟩
theorem atts_mono (t : ByteArray) (a : List At) : t.size ≤ (attsF t a).size := by rw [attsF_eq, ByteArray.size_append]; omega
theorem keys_mono (t : ByteArray) (a : List Nd) : t.size ≤ (keysF t a).size := by rw [keysF_eq, ByteArray.size_append]; omega
theorem keyA_sum (k : Nat) : SumOK (cxKey k) (LL Try.f100 [lsKeyA, lsKeyB k]) Try.f100.ntmps (loopAt Try.f100 0).1 (loopAt Try.f100 0).2 lsKeyA := by
  intro vs bs K hs
  unfold lsKeyA at hs
  simp only at hs
  split at hs
  case h_2 => exact hs.elim
  rename_i a m i c0 c1 c2 c3 c4 c5 t
  obtain ⟨⟨rfl, rfl, hl, hsz⟩, h⟩ := hs
  refine sum_for (fun _ => True) (fun i => [.ptr 0 0, .ptr 1 0, .row .attr a, .int .i64 a.length, .int .i64 i]) (fun i => [.box (nodeL ⟨c0, c1, c2, c3, c4, c5⟩), .bld (attsF t (a.take i))]) a.length (fun i hi _ R hR => ?_) (fun _ R => ?_) trivial
  · refine Eq.mpr (vcKeyA k ⟨c0, c1, c2, c3, c4, c5⟩ _ a a.length i _) ⟨fun _ => ⟨⟨by omega, by omega⟩, ?_⟩, fun h => lt_of h hi⟩
    rw [rd_at hi]
    have e := attsF_snoc (a.take i) t a[i]
    rw [take_snoc hi] at e
    have hm : (attsF t (a.take (i + 1))).size ≤ maxSl := by
      have := atts_mono (attsF t (a.take (i + 1))) (a.drop (i + 1))
      rw [← attsF_app, List.take_append_drop] at this; omega
    rw [e] at hm
    simp only [ByteArray.size_append] at hm
    refine ⟨by omega, ⟨by omega, ⟨by omega, ⟨by rw [ByteArray.size_append]; omega, ?_⟩⟩⟩⟩
    rw [wrap_succ hi hl]
    have := hR trivial
    rw [e] at this
    exact this
  · refine Eq.mpr (vcKeyA k ⟨c0, c1, c2, c3, c4, c5⟩ _ a a.length a.length _) ⟨fun h => not_lt_self h, fun _ => ?_⟩
    rw [List.take_length]; exact h
theorem keyB_sum (k : Nat) : SumOK (cxKey k) (LL Try.f100 [lsKeyA, lsKeyB k]) Try.f100.ntmps (loopAt Try.f100 1).1 (loopAt Try.f100 1).2 (lsKeyB k) := by
  intro vs bs K hs
  unfold lsKeyB at hs
  simp only at hs
  split at hs
  case h_2 => exact hs.elim
  rename_i a m i t
  obtain ⟨⟨rfl, rfl, hl, hall, hsz⟩, h⟩ := hs
  refine sum_for (fun _ => True) (fun i => [.ptr 0 0, .row .node a, .int .i64 a.length, .int .i64 i]) (fun i => [.bld (keysF t (a.take i))]) a.length (fun i hi _ R hR => ?_) (fun _ R => ?_) trivial
  · refine Eq.mpr (vcKeyB k _ a a.length i _) ⟨fun _ => ⟨⟨by omega, by omega⟩, ?_⟩, fun h => lt_of h hi⟩
    rw [rd_nd hi]
    simp only [nd_eta]
    have e := keysF_snoc (a.take i) t a[i]
    rw [take_snoc hi] at e
    have hm : (keysF t (a.take (i + 1))).size ≤ maxSl := by
      have := keys_mono (keysF t (a.take (i + 1))) (a.drop (i + 1))
      rw [← keysF_app, List.take_append_drop] at this; omega
    rw [e, ByteArray.size_append] at hm
    obtain ⟨g1, g2⟩ := hall a[i] (List.getElem_mem hi)
    refine ⟨⟨g1, g2, by omega⟩, ⟨by omega, ?_⟩⟩
    rw [wrap_succ hi hl]
    have := hR trivial
    rw [e] at this
    exact this
  · refine Eq.mpr (vcKeyB k _ a a.length a.length _) ⟨fun h => not_lt_self h, fun _ => ?_⟩
    rw [List.take_length]; exact h
theorem atts_ge : ∀ a : List At, a.length ≤ (attsS a).size
  | [] => Nat.zero_le _
  | a :: l => by
    have := atts_ge l
    have h1 := txt_size a.name
    have h2 := dig_pos (a.name.size : Int)
    rw [attsS]
    simp only [ByteArray.size_append, List.length_cons]; omega
theorem key_pos (n : Nd) : 1 ≤ (keyS n).size := by
  have h := dig_pos n.kind
  rw [keyS_eq]
  simp only [ByteArray.size_append]; omega
theorem keys_ge : ∀ a : List Nd, a.length ≤ (keysS a).size
  | [] => Nat.zero_le _
  | a :: l => by
    have := keys_ge l
    have := key_pos a
    rw [keysS]
    simp only [ByteArray.size_append, List.length_cons]; omega
theorem key_lt : ∀ k, Holds 100 (conKeyLt k)
  | 0 => conP_holds fun n => by
    intro F I w vals _ _ hpre
    exact absurd (hpre _ rfl).1 (Nat.not_lt_zero _)
  | k + 1 => conP_holds fun n => by
    refine fun_meets2 (AllH.tok (.cons dig_holds (by kernel_rfl) (.cons txt_holds (by kernel_rfl) (.cons write_holds (by kernel_rfl) (.cons string_holds (by kernel_rfl) (.cons (key_lt k) (by kernel_rfl) .nil)))))) [] lsKeyA (lsKeyB k) (by kernel_rfl) (by kernel_rfl) (keyA_sum k) (keyB_sum k) fun hpre => Eq.mpr (vcKeyF k n _) ?_
    obtain ⟨h1, h2, h3⟩ := hpre _ rfl
    rw [rngNd_eq] at h2
    have hfin : keysF (attsF ((⟨#[]⟩ : ByteArray) ++ (digS n.1 ++ digS n.2 ++ txtS n.3 ++ txtS n.5 ++ digS (n.4.length : Int))) n.4 ++ digS (n.6.length : Int)) n.6 = keyS n := by
      rw [keysF_eq, attsF_eq, ba_nil, keyS_eq]
    have hsz := h3
    rw [keyS_eq] at hsz
    simp only [ByteArray.size_append] at hsz
    have h0 : (ByteArray.mk (Array.mk [])).size = 0 := rfl
    have hA : (attsF ((⟨#[]⟩ : ByteArray) ++ (digS n.1 ++ digS n.2 ++ txtS n.3 ++ txtS n.5 ++ digS (n.4.length : Int))) n.4).size = (digS n.1).size + (digS n.2).size + (txtS n.3).size + (txtS n.5).size + (digS (n.4.length : Int)).size + (attsS n.4).size := by
      rw [attsF_eq, ba_nil]; simp only [ByteArray.size_append]
    have hl4 : n.4.length ≤ maxSl ∧ n.6.length ≤ maxSl := by
      have := atts_ge n.4
      have := keys_ge n.6
      omega
    refine ⟨h2.1, ⟨h2.2.1, ⟨by omega, ⟨by omega, ⟨by simp only [ByteArray.size_append]; omega, ⟨by omega, ⟨by simp only [ByteArray.size_append]; omega, ⟨inI_len hl4.1, ⟨by simp only [ByteArray.size_append]; omega, ⟨by rw [h0]; simp only [ByteArray.size_append]; omega, ⟨fun _ => ⟨fun hm => ⟨⟨rfl, rfl, hm, by rw [hA]; omega⟩, ⟨inI_len hl4.2, ⟨by rw [hA]; omega, ⟨fun _ => ⟨fun hm2 => ⟨⟨rfl, rfl, hm2, fun m hm => ⟨?_, rngNds_mem h2.2.2 hm⟩, by rw [hfin]; exact h3⟩, ⟨by rw [hfin]; exact h3, qfin rfl ?_ rfl rfl⟩⟩⟩⟩⟩⟩⟩⟩⟩⟩⟩⟩⟩⟩⟩⟩⟩⟩⟩
    · have := szNds_mem hm
      omega
    · show [AV.str _] = [AV.str (keyS n)]
      exact congrArg (fun x => [AV.str x]) hfin
theorem key_holds : Holds 100 conKey := conP_holds fun n => by
  intro F I w vals hH hv hpre
  exact key_lt (szNds n.kids + 1) [.agg (nodeL n)] [] { pre := some (szNds n.kids < szNds n.kids + 1 ∧ rngNd n ∧ (keyS n).size ≤ maxSl), res := .str (keyS n) } (by cases n; rfl) F I w vals hH hv (fun p hp => by injection hp with hp; subst hp; exact ⟨Nat.lt_succ_self _, hpre _ rfl⟩)
theorem tokTexts : TOK cxTexts := AllH.tok (.cons key_holds (by kernel_rfl) (.cons lab_holds (by kernel_rfl) .nil))
theorem textsK_sum : SumOK cxTexts (LL Try.f99 [lsTexts 100 PKey keyS]) Try.f99.ntmps (loopAt Try.f99 0).1 (loopAt Try.f99 0).2 (lsTexts 100 PKey keyS) := by
  intro vs bs K hs
  unfold lsTexts at hs
  simp only at hs
  split at hs
  case h_2 => exact hs.elim
  rename_i f' l m i out
  obtain ⟨⟨rfl, rfl, rfl, h0, hl, hall⟩, h⟩ := hs
  have : out = [] := List.eq_nil_of_length_eq_zero h0
  subst this
  rcases (show ∃ w : List Nd, w = l from ⟨_, rfl⟩) with ⟨l, rfl⟩
  have hm : l.length ≤ maxSl := by omega
  refine sum_for (fun _ => True) (fun i => [.fn 100 [], .own 0 0, .row .node l, .int .i64 l.length, .int .i64 i]) (fun i => [.rowb 0 .str ((l.take i).map keyS)]) l.length (fun i hi _ R hR => ?_) (fun _ R => ?_) trivial
  · refine Eq.mpr (vcTextsKB _ l l.length i _) ⟨fun _ => ⟨⟨by omega, by omega⟩, ?_⟩, fun h => lt_of h hi⟩
    rw [rd_nd hi]
    simp only [nd_eta]
    refine ⟨hall _ (List.getElem_mem hi), ⟨by simp only [List.length_map, List.length_take, List.length_cons, List.length_nil]; omega, ?_⟩⟩
    rw [wrap_succ hi hm]
    have := hR trivial
    rw [← take_snoc hi, List.map_append] at this
    exact this
  · refine Eq.mpr (vcTextsKB _ l l.length l.length _) ⟨fun h => not_lt_self h, fun _ => ?_⟩
    rw [List.take_length]; exact h
theorem textsL_sum : SumOK cxTexts (LL Try.f99 [lsTexts 101 PLab labS]) Try.f99.ntmps (loopAt Try.f99 0).1 (loopAt Try.f99 0).2 (lsTexts 101 PLab labS) := by
  intro vs bs K hs
  unfold lsTexts at hs
  simp only at hs
  split at hs
  case h_2 => exact hs.elim
  rename_i f' l m i out
  obtain ⟨⟨rfl, rfl, rfl, h0, hl, hall⟩, h⟩ := hs
  have : out = [] := List.eq_nil_of_length_eq_zero h0
  subst this
  rcases (show ∃ w : List Nd, w = l from ⟨_, rfl⟩) with ⟨l, rfl⟩
  have hm : l.length ≤ maxSl := by omega
  refine sum_for (fun _ => True) (fun i => [.fn 101 [], .own 0 0, .row .node l, .int .i64 l.length, .int .i64 i]) (fun i => [.rowb 0 .str ((l.take i).map labS)]) l.length (fun i hi _ R hR => ?_) (fun _ R => ?_) trivial
  · refine Eq.mpr (vcTextsLB _ l l.length i _) ⟨fun _ => ⟨⟨by omega, by omega⟩, ?_⟩, fun h => lt_of h hi⟩
    rw [rd_nd hi]
    simp only [nd_eta]
    refine ⟨hall _ (List.getElem_mem hi), ⟨by simp only [List.length_map, List.length_take, List.length_cons, List.length_nil]; omega, ?_⟩⟩
    rw [wrap_succ hi hm]
    have := hR trivial
    rw [← take_snoc hi, List.map_append] at this
    exact this
  · refine Eq.mpr (vcTextsLB _ l l.length l.length _) ⟨fun h => not_lt_self h, fun _ => ?_⟩
    rw [List.take_length]; exact h
theorem textsK_holds : Holds 99 conTextsK := conP_holds fun l _ => by
  refine fun_meets1 tokTexts [.own .str] (lsTexts 100 PKey keyS) (by kernel_rfl) (by kernel_rfl) textsK_sum fun hpre => Eq.mpr (vcTextsKF l _) ?_
  obtain ⟨h1, h2⟩ := hpre _ rfl
  exact ⟨fun hm => ⟨⟨rfl, rfl, rfl, rfl, h1, h2⟩, qfin rfl rfl rfl rfl⟩⟩
theorem textsL_holds : Holds 99 conTextsL := conP_holds fun l _ => by
  refine fun_meets1 tokTexts [.own .str] (lsTexts 101 PLab labS) (by kernel_rfl) (by kernel_rfl) textsL_sum fun hpre => Eq.mpr (vcTextsLF l _) ?_
  obtain ⟨h1, h2⟩ := hpre _ rfl
  exact ⟨fun hm => ⟨⟨rfl, rfl, rfl, rfl, h1, h2⟩, qfin rfl rfl rfl rfl⟩⟩
end Go.Proofs.Ytmkjjopflncedaa.AX
end
section
namespace Go.Proofs.Ytmkjjopflncedaa.AXP
open Go Go.Proofs.Ytmkjjopflncedaa.AX
/-- Are two places' texts the same; is more left ahead in the first list. -/
def eT (a b : List ByteArray) (i j : Nat) : Bool := eqS (a.getD i ⟨#[]⟩) (b.getD j ⟨#[]⟩)
def lineT (a b : List ByteArray) : List Pr := lineF (eT a b) (gN (cntP eqS a b)) a.length b.length (a.length + b.length) 0 0
def lineR (a b : List ByteArray) (i j : Nat) : List Pr := lineF (eT a b) (gN (cntP eqS a b)) a.length b.length (a.length + b.length) i j
def alikeT (a b : List ByteArray) (ga gb ta tb : Int) : List Pr := alikeS (eT a b) tb.toNat (ta.toNat - ga.toNat) ga.toNat gb.toNat
/-- The place behind those of a gap. -/
def gapsT (x y : List ByteArray) (la lb : Nat) (ps : List Pr) (ga gb : Nat) : List Pr := gapsS (eT x y) la lb ps ga gb
def listsT (a b : List Nd) : List Pr := gapsT (a.map labS) (b.map labS) a.length b.length (lineT (a.map keyS) (b.map keyS)) 0 0
end Go.Proofs.Ytmkjjopflncedaa.AXP
namespace Go.Proofs.Ytmkjjopflncedaa.AX
open Go AXP
def conCounts : Con := conP [.row .str, .row .str] fun (a b : List ByteArray) => { pre := some ((a.length + 1) * 24 ≤ maxSl ∧ (b.length + 1) * 8 ≤ maxSl), res := .row .ints (cntP eqS a b) }
noncomputable def cxLine : Cx := cxT (tabLook [(109, conCounts)])
def lsLine : LS where
  keep := [(0, .as), (1, .as), (5, .as), (6, .own .pair), (7, .as), (8, .as)]
  left := [(6, .own .pair)]
  sum := fun vs bs K => match vs, bs with
    | [.row .str a, .row .str b, .row .ints n, .own 0 0, .int .i64 i, .int .i64 j], [.rowb 0 .pair out] => Rq (n = cntP eqS a b ∧ i = 0 ∧ j = 0 ∧ out.length = 0 ∧ a.length ≤ maxSl ∧ b.length ≤ maxSl ∧ (a.length + b.length) * 24 ≤ maxSl) (K (.exit 0) [.own 0 0] [.rowb 0 .pair (lineT a b)])
    | _, _ => False
def conLine : Con := conP [.row .str, .row .str] fun (a b : List ByteArray) => { pre := some ((a.length + 1) * 24 ≤ maxSl ∧ (b.length + 1) * 8 ≤ maxSl ∧ (a.length + b.length) * 24 ≤ maxSl), res := .own 0 0, extra := [.rowb 0 .pair (lineT a b)] }
end Go.Proofs.Ytmkjjopflncedaa.AX
end
section
namespace Go.Proofs.Ytmkjjopflncedaa.AX
open Go AXP
set_option maxRecDepth 100000
theorem vcLineB (a b : List ByteArray) (n : List (List Int)) (out : List Pr) (i j : Int) (K : Ex → List AV → List Blk → Prop) : (bodyA cxLine (LL Try.f98 [lsLine]) Try.f98.ntmps (loopAt Try.f98 0).1 (loopAt Try.f98 0).2 lsLine.keep lsLine.left K [.row .str a, .row .str b, .row .ints n, .own 0 0, .int .i64 i, .int .i64 j] [.rowb 0 .pair out]) = (
Br (decide (i < (↑a.length : Int)))
  (Gv (a.length ≤ maxSl)
    (Gv (b.length ≤ maxSl)
      (Br (decide (j < (↑b.length : Int)))
        (Rq ((0 : Int) ≤ i ∧ i < (↑a.length : Int))
          (Rq ((0 : Int) ≤ j ∧ j < (↑b.length : Int))
            (Br (eqS (rd Ty.str a i) (rd Ty.str b j))
              (Rq ((out.length + [Pr.mk i j true].length) * (24 : Nat) ≤ maxSl)
                (K Ex.norm
                  [AV.row Ty.str a, AV.row Ty.str b, AV.row Ty.ints n, AV.own (0 : Nat) (0 : Nat),
                    AV.int IntKind.i64 (IntKind.i64.wrap (i + (1 : Int))),
                    AV.int IntKind.i64 (IntKind.i64.wrap (j + (1 : Int)))]
                  [Blk.rowb (0 : Nat) Ty.pair (out ++ [Pr.mk i j true])]))
              (Rq ((0 : Int) ≤ IntKind.i64.wrap (i + (1 : Int)) ∧ IntKind.i64.wrap (i + (1 : Int)) < (↑n.length : Int))
                (Rq ((0 : Int) ≤ j ∧ j < (↑(List.length (rd Ty.ints n (IntKind.i64.wrap (i + (1 : Int))))) : Int))
                  (Rq ((0 : Int) ≤ i ∧ i < (↑n.length : Int))
                    (Rq
                      ((0 : Int) ≤ IntKind.i64.wrap (j + (1 : Int)) ∧
                        IntKind.i64.wrap (j + (1 : Int)) < (↑(List.length (rd Ty.ints n i)) : Int))
                      (Br
                        (decide
                          (rd Ty.int (rd Ty.ints n (IntKind.i64.wrap (i + (1 : Int)))) j ≥
                            rd Ty.int (rd Ty.ints n i) (IntKind.i64.wrap (j + (1 : Int)))))
                        (K Ex.norm
                          [AV.row Ty.str a, AV.row Ty.str b, AV.row Ty.ints n, AV.own (0 : Nat) (0 : Nat),
                            AV.int IntKind.i64 (IntKind.i64.wrap (i + (1 : Int))), AV.int IntKind.i64 j]
                          [Blk.rowb (0 : Nat) Ty.pair out])
                        (K Ex.norm
                          [AV.row Ty.str a, AV.row Ty.str b, AV.row Ty.ints n, AV.own (0 : Nat) (0 : Nat),
                            AV.int IntKind.i64 i, AV.int IntKind.i64 (IntKind.i64.wrap (j + (1 : Int)))]
                          [Blk.rowb (0 : Nat) Ty.pair out])))))))))
        (K (Ex.exit (0 : Nat)) [AV.own (0 : Nat) (0 : Nat)] [Blk.rowb (0 : Nat) Ty.pair out]))))
  (Gv (a.length ≤ maxSl) (K (Ex.exit (0 : Nat)) [AV.own (0 : Nat) (0 : Nat)] [Blk.rowb (0 : Nat) Ty.pair out]))) := by kernel_rfl
theorem vcLineF (a b : List ByteArray) (Q : List AV → List Blk → List Blk → Prop) : (funA cxLine (LL Try.f98 [lsLine]) Try.f98 [.row .str a, .row .str b] [] [.own .pair] Q) = (
Rq ((a.length + (1 : Nat)) * (24 : Nat) ≤ maxSl ∧ (b.length + (1 : Nat)) * (8 : Nat) ≤ maxSl)
  (Rq
    (cntP eqS a b = cntP eqS a b ∧
      (0 : Int) = (0 : Int) ∧
        (0 : Int) = (0 : Int) ∧
          (0 : Nat) = (0 : Nat) ∧ a.length ≤ maxSl ∧ b.length ≤ maxSl ∧ (a.length + b.length) * (24 : Nat) ≤ maxSl)
    (Q [AV.own (0 : Nat) (0 : Nat)] [] [Blk.rowb (0 : Nat) Ty.pair (lineT a b)]))) := by kernel_rfl
end Go.Proofs.Ytmkjjopflncedaa.AX
end
section
namespace Go.Proofs.Ytmkjjopflncedaa.AX
open Go Go.RowKit
set_option linter.unusedVariables false
set_option linter.unusedSimpArgs false
theorem infoInt : (Try.prog.info? 3).map (fun i => (i.zero, i.size, i.bytes)) = some (some (.int .i64 0), 1, 8) := by kernel_rfl
theorem infoInts : (Try.prog.info? 58).map (fun i => (i.zero, i.size, i.bytes)) = some (some (.slice none 0 0), 1, 24) := by kernel_rfl
/-- The table's own row of rows, when r of them are made. -/
def topM (N M : Nat) (r : Nat) : Nat → Value := fun j => if j < r then .slice (some ⟨N + 1 + j, 0, none⟩) M M else .slice none 0 0
/-- r rows of n are made. -/
structure Mk (w wr : World) (n m r : Nat) : Prop where
  since : w.Since w.heap.size wr
  size : wr.heap.size = w.heap.size + 1 + r
  top : wr.rowIs w.heap.size 58 n (topM w.heap.size m r)
  done : ∀ j, j < r → wr.rowIs (w.heap.size + 1 + j) 3 m (fun _ => .int .i64 0)
/-- All are made, and hold Z. -/
structure Tab (w wr : World) (n m : Nat) (Z : Nat → Nat → Int) : Prop where
  since : w.Since w.heap.size wr
  size : wr.heap.size = w.heap.size + 1 + n
  top : wr.rowIs w.heap.size 58 n (topM w.heap.size m n)
  row : ∀ j, j < n → wr.rowIs (w.heap.size + 1 + j) 3 m (fun c => .int .i64 (Z j c))
theorem mk_start (w : World) (n m : Nat) : Mk w (w.alloc (.cells (madeCells #[.slice none 0 0] n) 58)) n m 0 :=
  ⟨(World.Since.refl _ _).alloc (Nat.le_refl _) _, by simp, (World.rowIs_made w _ n _).congr (fun j _ => by simp [topM]), fun j hj => absurd hj (Nat.not_lt_zero _)⟩
theorem mk_step {w wr : World} {n m r : Nat} (h : Mk w wr n m r) : Mk w ((wr.alloc (.cells (madeCells #[.int .i64 0] m) 3)).setCell ⟨w.heap.size, r, none⟩ (.slice (some ⟨w.heap.size + 1 + r, 0, none⟩) m m)) n m (r + 1) := by
  have hnew := World.rowIs_made wr (.int .i64 0) m 3
  rw [h.size] at hnew
  refine ⟨(h.since.alloc (by rw [h.size]; omega) _).setCell (Nat.le_refl _) _, by simp [h.size]; omega, ((h.top.alloc _).set r _).congr (fun j _ => ?_), fun j hj => ?_⟩
  · simp only [topM]
    by_cases e : j = r
    · subst e; simp
    · rw [if_neg e]
      by_cases hlt : j < r
      · rw [if_pos hlt, if_pos (by omega)]
      · rw [if_neg hlt, if_neg (by omega)]
  · by_cases e : j = r
    · subst e
      exact hnew.setOther (by show w.heap.size + 1 + j ≠ w.heap.size; omega) _
    · exact ((h.done j (by omega)).alloc _).setOther (by show w.heap.size + 1 + j ≠ w.heap.size; omega) _
theorem mk_done {w wr : World} {n m : Nat} {Z : Nat → Nat → Int} (h : Mk w wr n m n) (hz : ∀ j c, j < n → c < m → Z j c = 0) : Tab w wr n m Z :=
  ⟨h.since, h.size, h.top, fun j hj => (h.done j hj).congr fun c hc => by rw [hz j c hj hc]⟩
theorem Tab.put {w wr : World} {n m : Nat} {Z Z' : Nat → Nat → Int} {r c : Nat} {v : Int} (h : Tab w wr n m Z) (hr : r < n) (hz : ∀ j d, j < n → d < m → Z' j d = if j = r ∧ d = c then v else Z j d) : Tab w (wr.setCell ⟨w.heap.size + 1 + r, c, none⟩ (.int .i64 v)) n m Z' := by
  refine ⟨h.since.setCell (by show w.heap.size ≤ w.heap.size + 1 + r; omega) _, by simp [h.size], h.top.setOther (by show w.heap.size ≠ w.heap.size + 1 + r; omega) _, fun j hj => ?_⟩
  by_cases e : j = r
  · subst e
    refine ((h.row j hj).set c _).congr fun d hd => ?_
    rw [hz j d hj hd]
    by_cases e2 : d = c
    · rw [if_pos e2, if_pos ⟨rfl, e2⟩]
    · rw [if_neg e2, if_neg (fun q => e2 q.2)]
  · refine ((h.row j hj).setOther (by show w.heap.size + 1 + j ≠ w.heap.size + 1 + r; omega) _).congr fun d hd => ?_
    rw [hz j d hj hd, if_neg (fun q => e q.1)]
theorem Tab.drew {w wr : World} {n m : Nat} {Z : Nat → Nat → Int} (h : Tab w wr n m Z) : Tab w wr.drew n m Z := ⟨h.since.drew, h.size, h.top.drew, fun j hj => (h.row j hj).drew⟩
theorem Tab.congr {w wr : World} {n m : Nat} {Z Z' : Nat → Nat → Int} (h : Tab w wr n m Z) (e : ∀ j c, j < n → c < m → Z' j c = Z j c) : Tab w wr n m Z' := ⟨h.since, h.size, h.top, fun j hj => (h.row j hj).congr fun c hc => by rw [e j c hj hc]⟩
theorem Tab.cellT {w wr : World} {n m : Nat} {Z : Nat → Nat → Int} (h : Tab w wr n m Z) {j : Nat} (hj : j < n) : wr.cell? ⟨w.heap.size, j, none⟩ = some (.slice (some ⟨w.heap.size + 1 + j, 0, none⟩) m m) := by
  have := h.top.cell hj
  rw [topM, if_pos hj] at this; exact this
/-- What holds in the table at place (k, l): all behind it is filled. -/
def zAt (C : Nat → Nat → Int) (k l : Nat) (r c : Nat) : Int := if k ≤ r ∨ (r + 1 = k ∧ l ≤ c) then C r c else 0
/-- What the table's places have to do with one another. -/
structure CntOK (la lb : Nat) (e : Nat → Nat → Bool) (C : Nat → Nat → Int) : Prop where
  lastR : ∀ c, c ≤ lb → C la c = 0
  lastC : ∀ r, r ≤ la → C r lb = 0
  step : ∀ r c, r < la → c < lb → C r c = if e r c = true then 1 + C (r + 1) (c + 1) else if C r (c + 1) > C (r + 1) c then C r (c + 1) else C (r + 1) c
  low : ∀ r c, 0 ≤ C r c
  high : ∀ r c, C r c ≤ lb
set_option maxHeartbeats 16000000 in
set_option maxRecDepth 1000000 in
theorem counts_walk (la lb : Nat) (ca cb : Nat) (aa ab : Option Addr) (ba oa bb ob : Nat) (sa sb : Nat → ByteArray) (C : Nat → Nat → Int) (w : World) (haa : 0 < la → aa = some ⟨ba, oa, none⟩) (hab : 0 < lb → ab = some ⟨bb, ob, none⟩)
    (hA : ∀ r, r < la → w.cell? ⟨ba, oa + r, none⟩ = some (.string (sa r))) (hB : ∀ c, c < lb → w.cell? ⟨bb, ob + c, none⟩ = some (.string (sb c)))
    (hla : (la + 1) * 24 ≤ 140737488355328) (hlb : (lb + 1) * 8 ≤ 140737488355328) (hC : CntOK la lb (fun r c => (sa r).toList == (sb c).toList) C) :
    Calls Try.prog 109 #[.slice aa la ca, .slice ab lb cb] w fun e w' => e = .returned (.slice (some ⟨w.heap.size, 0, none⟩) (la + 1) (la + 1)) ∧ Tab w w' (la + 1) (lb + 1) C := by
  have hmkT := run_make_row' (P := Try.prog) 144 58 (.slice none 0 0) 24 Try.underlying144 infoInts rfl .i64 .i64 (la + 1) (by omega) (by omega)
  have hmkR := run_make_row' (P := Try.prog) 58 3 (.int .i64 0) 8 Try.underlying58 infoInt rfl .i64 .i64 (lb + 1) (by omega) (by omega)
  have HC : Hid (CntOK la lb (fun r c => (sa r).toList == (sb c).toList) C) := hC
  have HA : Hid (∀ r, r < la → w.cell? ⟨ba, oa + r, none⟩ = some (.string (sa r))) := hA
  have HB : Hid (∀ c, c < lb → w.cell? ⟨bb, ob + c, none⟩ = some (.string (sb c))) := hB
  have HAA : Hid (0 < la → aa = some ⟨ba, oa, none⟩) := haa
  have HAB : Hid (0 < lb → ab = some ⟨bb, ob, none⟩) := hab
  clear hC hA hB haa hab
  push_cast at hmkT hmkR
  go_enter Try.func109, Try.ntmps109
  go_wp2
  have HM0 : Hid (Mk w (w.alloc (.cells (madeCells #[.slice none 0 0] (la + 1)) 58)) (la + 1) (lb + 1) 0) := mk_start w (la + 1) (lb + 1)
  go_loopg [6, 15] (la + 1) (fun gg _ s15 wr => ∃ r : Nat, r ≤ la + 1 ∧ gg = la + 1 - r ∧ s15 = .int .i64 r ∧ Hid (Mk w wr (la + 1) (lb + 1) r))
  case atStart => exact ⟨0, Nat.zero_le _, rfl, rfl, HM0⟩
  case round =>
    obtain ⟨r, hr, rfl, rfl, hM⟩ := hrel
    by_cases hrn : r < la + 1
    · have hrz : (r : Int) < (la : Int) + 1 := by omega
      have hsize := hM.out.size
      have hst1 : ∀ o, (wr.alloc o).cell? ⟨w.heap.size, r, none⟩ = some (topM w.heap.size (lb + 1) r r) := fun o => (hM.out.top.alloc o).cell hrn
      have hst2 : ∀ o, (wr.alloc o).frozen? ⟨w.heap.size, r, none⟩ = false := fun o => (hM.out.top.alloc o).frozen r
      have hM1 : Hid (Mk w ((wr.alloc (.cells (madeCells #[.int .i64 0] (lb + 1)) 3)).setCell ⟨w.heap.size, r, none⟩ (.slice (some ⟨w.heap.size + 1 + r, 0, none⟩) (lb + 1) (lb + 1))) (la + 1) (lb + 1) (r + 1)) := mk_step hM.out
      go_wp2
      go_roundg (la + 1 - (r + 1))
      case measure => omega
      case rel =>
        refine ⟨r + 1, by omega, rfl, congrArg (Value.int .i64) (by omega), ?_⟩
        exact hM1
    · have hre : r = la + 1 := by omega
      subst hre
      have hrz : ¬ (((la + 1 : Nat) : Int) < (la : Int) + 1) := by omega
      have hT0 : Hid (Tab w wr (la + 1) (lb + 1) (zAt C la lb)) := mk_done hM.out fun j c hj hc => by
        unfold zAt
        split
        · rename_i h
          rcases h with h | ⟨h1, h2⟩
          · rw [show j = la by omega]; exact HC.out.lastR c (by omega)
          · rw [show c = lb by omega]; exact HC.out.lastC j (by omega)
        · rfl
      clear hM HM0
      go_wp2
      go_loopg [7, 8] la (fun gg s7 _ wx => ∃ k : Nat, k ≤ la ∧ gg = k ∧ s7 = .int .i64 ((k : Int) - 1) ∧ Hid (Tab w wx (la + 1) (lb + 1) (zAt C k lb)))
      case atStart => exact ⟨la, Nat.le_refl _, rfl, rfl, hT0⟩
      case round =>
        obtain ⟨k, hk, rfl, rfl, hT⟩ := hrel
        clear hT0
        cases gk with
        | zero =>
          have hneg : ¬ ((((0 : Nat) : Int) - 1) ≥ 0) := by decide
          go_wp2
          go_ret
          exact ⟨rfl, hT.out.congr fun j c _ _ => by unfold zAt; rw [if_pos (.inl (Nat.zero_le _))]⟩
        | succ k =>
          have hpos : (((k + 1 : Nat) : Int) - 1) = (k : Int) := by omega
          rw [hpos]
          have hk0 : (k : Int) ≥ 0 := by omega
          go_wp2
          go_loopg [8] lb (fun gg s8 wx => ∃ l : Nat, l ≤ lb ∧ gg = l ∧ s8 = .int .i64 ((l : Int) - 1) ∧ Hid (Tab w wx (la + 1) (lb + 1) (zAt C (k + 1) l)))
          case atStart => exact ⟨lb, Nat.le_refl _, rfl, rfl, hT⟩
          case round =>
            obtain ⟨l, hl, rfl, rfl, hU⟩ := hrel
            clear hT
            cases gk with
            | zero =>
              have hneg : ¬ ((((0 : Nat) : Int) - 1) ≥ 0) := by decide
              go_wp2
              go_roundg k
              case measure => omega
              case rel =>
                refine ⟨k, by omega, rfl, congrArg (Value.int .i64) (by omega), (show Hid _ from hU.out.congr fun j c hj hc => ?_)⟩
                unfold zAt
                by_cases q1 : k ≤ j
                · rw [if_pos (.inl q1)]
                  by_cases q2 : k + 1 ≤ j
                  · rw [if_pos (.inl q2)]
                  · rw [if_pos (.inr ⟨by omega, Nat.zero_le _⟩)]
                · rw [if_neg (show ¬ (k + 1 ≤ j ∨ j + 1 = k + 1 ∧ 0 ≤ c) by omega)]
                  by_cases q2 : j + 1 = k ∧ lb ≤ c
                  · rw [if_pos (.inr q2), show c = lb by omega]
                    exact HC.out.lastC j (by omega)
                  · rw [if_neg (fun h => h.elim q1 q2)]
            | succ l =>
              have hposl : (((l + 1 : Nat) : Int) - 1) = (l : Int) := by omega
              rw [hposl]
              have hl0 : (l : Int) ≥ 0 := by omega
              have t1 := hU.out.cellT (j := k) (by omega)
              have t2 := hU.out.cellT (j := k + 1) (by omega)
              have z1 : zAt C (k + 1) (l + 1) (k + 1) l = C (k + 1) l := by unfold zAt; rw [if_pos (.inl (Nat.le_refl _))]
              have z2 : zAt C (k + 1) (l + 1) k (l + 1) = C k (l + 1) := by unfold zAt; rw [if_pos (.inr ⟨rfl, Nat.le_refl _⟩)]
              have z3 : zAt C (k + 1) (l + 1) (k + 1) (l + 1) = C (k + 1) (l + 1) := by unfold zAt; rw [if_pos (.inl (Nat.le_refl _))]
              have c1 := (hU.out.row (k + 1) (by omega)).cell (i := l) (by omega)
              have c2 := (hU.out.row k (by omega)).cell (i := l + 1) (by omega)
              have c3 := (hU.out.row (k + 1) (by omega)).cell (i := l + 1) (by omega)
              have c4 := (hU.out.row k (by omega)).cell (i := l) (by omega)
              have f4 := (hU.out.row k (by omega)).frozen l
              rw [z1] at c1
              rw [z2] at c2
              rw [z3] at c3
              have hsz := hU.out.size
              obtain rfl := HAA.out (by omega)
              obtain rfl := HAB.out (by omega)
              have hkk : (k : Int) < (la : Int) + 1 := by omega
              have hkk1 : (k : Int) + 1 < (la : Int) + 1 := by omega
              have hll : (l : Int) < (lb : Int) + 1 := by omega
              have hll1 : (l : Int) + 1 < (lb : Int) + 1 := by omega
              have hk63 : (k : Int) + 1 ≤ 9223372036854775807 := by omega
              have hl63 : (l : Int) + 1 ≤ 9223372036854775807 := by omega
              go_wp2_with fail
              go_region
              have hba : ba < w.heap.size := World.block_lt_of_cell? _ _ (HA.out k (by omega))
              have hbb : bb < w.heap.size := World.block_lt_of_cell? _ _ (HB.out l (by omega))
              obtain ⟨M, hM⟩ : ∃ M, M = (if C (k + 1) l < C k (l + 1) then C k (l + 1) else C (k + 1) l) := ⟨_, rfl⟩
              have hMx : max (C (k + 1) l) (C k (l + 1)) = M := by rw [hM]; split <;> omega
              first
                | rw [← hM]
                | rw [hMx]
              have HM : Hid (M = (if C (k + 1) l < C k (l + 1) then C k (l + 1) else C (k + 1) l)) := hM
              have T1 : Tab w (wr.setCell ⟨w.heap.size + 1 + k, l, none⟩ (.int .i64 M)) (la + 1) (lb + 1) (fun r c => if r = k ∧ c = l then M else zAt C (k + 1) (l + 1) r c) := hU.out.put (by omega) fun j d _ _ => rfl
              obtain ⟨W1, hW1⟩ : ∃ W1, W1 = (wr.setCell ⟨w.heap.size + 1 + k, l, none⟩ (.int .i64 M)) := ⟨_, rfl⟩
              rw [← hW1] at T1 ⊢
              clear hW1 hM t1 t2 c1 c2 c3 c4 f4 hsz
              have hsz := T1.size
              have a1 : W1.cell? ⟨ba, oa + k, none⟩ = some (.string (sa k)) := by rw [T1.since.cell (a := ⟨ba, oa + k, none⟩) hba]; exact HA.out k (by omega)
              have b1 : W1.cell? ⟨bb, ob + l, none⟩ = some (.string (sb l)) := by rw [T1.since.cell (a := ⟨bb, ob + l, none⟩) hbb]; exact HB.out l (by omega)
              have t1 := T1.cellT (j := k) (by omega)
              have t2 := T1.cellT (j := k + 1) (by omega)
              have c3 := (T1.row (k + 1) (by omega)).cell (i := l + 1) (by omega)
              have c4 := (T1.row k (by omega)).cell (i := l) (by omega)
              have f4 := (T1.row k (by omega)).frozen l
              simp only [show ¬ (k + 1 = k ∧ l + 1 = l) by omega, if_false, z3] at c3
              have hC1 := HC.out.low (k + 1) (l + 1)
              have hC2 := HC.out.high (k + 1) (l + 1)
              have hC3 : C (k + 1) (l + 1) + 1 ≤ 9223372036854775807 := by omega
              have HT1 : Hid (Tab w W1 (la + 1) (lb + 1) (fun r c => if r = k ∧ c = l then M else zAt C (k + 1) (l + 1) r c)) := T1
              clear T1
              have fin : ∀ (wr' : World) (v : Int) (Z : Nat → Nat → Int), Tab w wr' (la + 1) (lb + 1) Z → (∀ j d, j < la + 1 → d < lb + 1 → Z j d = if j = k ∧ d = l then v else zAt C (k + 1) (l + 1) j d) → v = C k l → Tab w wr' (la + 1) (lb + 1) (zAt C (k + 1) l) := fun wr' v Z hT hZ hv => hT.congr fun j d hj hd => by
                rw [hZ j d hj hd]
                unfold zAt
                by_cases q : j = k ∧ d = l
                · rw [if_pos q, if_pos (.inr ⟨by omega, by omega⟩), hv, q.1, q.2]
                · rw [if_neg q]
                  by_cases q1 : k + 1 ≤ j ∨ (j + 1 = k + 1 ∧ l + 1 ≤ d)
                  · rw [if_pos q1, if_pos (by omega)]
                  · rw [if_neg q1, if_neg (by omega)]
              have HF := (⟨fin⟩ : PLift _)
              clear fin
              have hstep : Hid (C k l = if ((sa k).toList == (sb l).toList) = true then 1 + C (k + 1) (l + 1) else if C k (l + 1) > C (k + 1) l then C k (l + 1) else C (k + 1) l) := HC.out.step k l (by omega) (by omega)
              cases he : ((sa k).toList == (sb l).toList) with
              | true =>
                go_wp2_with fail
                go_region
                go_wp2_with fail
                go_region
                have HT2 : Hid (Tab w (W1.setCell ⟨w.heap.size + 1 + k, l, none⟩ (.int .i64 (1 + C (k + 1) (l + 1)))) (la + 1) (lb + 1) (fun r c => if r = k ∧ c = l then 1 + C (k + 1) (l + 1) else if r = k ∧ c = l then M else zAt C (k + 1) (l + 1) r c)) := HT1.out.put (by omega) fun j d _ _ => rfl
                go_wp2
                go_roundg l
                case measure => omega
                case rel =>
                  refine ⟨l, by omega, rfl, congrArg (Value.int .i64) (by omega), (show Hid _ from HF.down _ (1 + C (k + 1) (l + 1)) _ HT2.out.drew.drew.drew (fun j d _ _ => ?_) ?_)⟩
                  · by_cases q : j = k ∧ d = l
                    · rw [if_pos q, if_pos q]
                    · rw [if_neg q, if_neg q, if_neg q]
                  · rw [hstep.out, he]; rfl
              | false =>
                go_wp2_with fail
                go_region
                go_wp2
                go_roundg l
                case measure => omega
                case rel =>
                  refine ⟨l, by omega, rfl, congrArg (Value.int .i64) (by omega), (show Hid _ from HF.down _ M _ HT1.out.drew.drew (fun j d _ _ => rfl) ?_)⟩
                  rw [hstep.out, he, HM.out]
                  simp only [Bool.false_eq_true, if_false, gt_iff_lt]
end Go.Proofs.Ytmkjjopflncedaa.AX
end
section
namespace Go.Proofs.Ytmkjjopflncedaa.AXP
open Go Go.Proofs.Ytmkjjopflncedaa.AX
def cAt (a b : List ByteArray) (r c : Nat) : Int := ((cntP eqS a b).getD r []).getD c 0
theorem falls_bound : ∀ {l : List Int} {c : Nat}, Falls l → 0 ≤ l.getD c 0 ∧ l.getD c 0 ≤ ((l.length - 1 : Nat) : Int)
  | [z], 0, h => by have h : z = 0 := h; subst h; simp
  | [z], c + 1, h => by simp
  | x :: y :: t, 0, h => by
    have := falls_bound (c := 0) h.2.2
    have h1 := h.1
    have h2 := h.2.1
    simp only [List.getD_cons_zero, List.length_cons] at this ⊢
    omega
  | x :: y :: t, c + 1, h => by
    have := falls_bound (c := c) h.2.2
    simp only [List.getD_cons_succ, List.length_cons] at this ⊢
    omega
theorem falls_last : ∀ {l : List Int} {n : Nat}, Falls l → l.length = n + 1 → l.getD n 0 = 0
  | [z], 0, h, _ => h
  | [z], n + 1, h, hl => by simp at hl
  | x :: y :: t, 0, h, hl => by simp at hl
  | x :: y :: t, n + 1, h, hl => by
    rw [List.getD_cons_succ]
    exact falls_last h.2.2 (by simpa using hl)
theorem cnt_row (a b : List ByteArray) {r : Nat} (h : r ≤ a.length) : ((cntP eqS a b).getD r []).length = b.length + 1 ∧ Falls ((cntP eqS a b).getD r []) := by
  have e := cntP_drop eqS b r h
  have h1 := cntP_ok eqS b (a.drop r)
  have : (cntP eqS (a.drop r) b).headD [] = (cntP eqS a b).getD r [] := by
    rw [e, List.headD_eq_head?_getD, List.head?_drop, List.getD_eq_getElem?_getD]
  rw [this] at h1
  exact ⟨h1.1, h1.2.1⟩
theorem cnt_ok (a b : List ByteArray) : CntOK a.length b.length (fun r c => (a.getD r ⟨#[]⟩).toList == (b.getD c ⟨#[]⟩).toList) (cAt a b) := by
  refine ⟨fun c hc => ?_, fun r hr => ?_, fun r c hr hc => ?_, fun r c => ?_, fun r c => ?_⟩
  · unfold cAt
    have e := cntP_drop eqS b a.length (Nat.le_refl _)
    rw [List.drop_length, cntP] at e
    have : (cntP eqS a b).getD a.length [] = List.replicate (b.length + 1) 0 := by
      have h2 : ((cntP eqS a b).drop a.length).head? = some (List.replicate (b.length + 1) 0) := by rw [← e]; rfl
      rw [List.head?_drop] at h2
      rw [List.getD_eq_getElem?_getD, h2]; rfl
    rw [this, List.getD_eq_getElem?_getD, List.getElem?_replicate]
    split <;> rfl
  · obtain ⟨h1, h2⟩ := cnt_row a b hr
    exact falls_last h2 h1
  · unfold cAt
    have e1 := cntP_drop eqS b r (Nat.le_of_lt hr)
    have e2 := cntP_drop eqS b (r + 1) hr
    rw [List.drop_eq_getElem_cons hr, cntP] at e1
    have g1 : (cntP eqS a b).getD r [] = rowP eqS a[r] b ((cntP eqS (a.drop (r + 1)) b).headD []) := by
      have h2 : ((cntP eqS a b).drop r).head? = some (rowP eqS a[r] b ((cntP eqS (a.drop (r + 1)) b).headD [])) := by rw [← e1]; rfl
      rw [List.head?_drop] at h2
      rw [List.getD_eq_getElem?_getD, h2]; rfl
    have g2 : (cntP eqS (a.drop (r + 1)) b).headD [] = (cntP eqS a b).getD (r + 1) [] := by
      rw [e2, List.headD_eq_head?_getD, List.head?_drop, List.getD_eq_getElem?_getD]
    rw [g2] at g1
    obtain ⟨l1, _⟩ := cnt_row a b (r := r + 1) hr
    rw [g1]
    have ed := rowP_drop eqS a[r] c l1 (Nat.le_of_lt hc)
    obtain ⟨N, hN⟩ : ∃ N, N = (cntP eqS a b).getD (r + 1) [] := ⟨_, rfl⟩
    rw [← hN] at ed l1 ⊢
    have hcN : c < N.length := by omega
    have hcN1 : c + 1 < N.length := by omega
    rw [List.drop_eq_getElem_cons hc, List.drop_eq_getElem_cons hcN, rowP_cons] at ed
    have ed' := rowP_drop eqS a[r] (c + 1) l1 hc
    have hget : ∀ (l : List Int) (i : Nat), (l.drop i).headD 0 = l.getD i 0 := fun l i => by rw [List.headD_eq_head?_getD, List.head?_drop, List.getD_eq_getElem?_getD]
    have key := congrArg (fun l => l.headD 0) ed
    rw [ed'] at key
    simp only [List.headD_cons, hget] at key
    rw [← key]
    have ea : a.getD r ⟨#[]⟩ = a[r] := by rw [List.getD_eq_getElem?_getD, List.getElem?_eq_getElem hr]; rfl
    have eb : b.getD c ⟨#[]⟩ = b[c] := by rw [List.getD_eq_getElem?_getD, List.getElem?_eq_getElem hc]; rfl
    have en : N.getD c 0 = N[c] := by rw [List.getD_eq_getElem?_getD, List.getElem?_eq_getElem hcN]; rfl
    rw [ea, eb, en]; rfl
  · unfold cAt
    by_cases h : r ≤ a.length
    · exact (falls_bound (cnt_row a b h).2).1
    · rw [List.getD_eq_getElem?_getD (l := cntP eqS a b), List.getElem?_eq_none (by rw [cntP_len]; omega)]; simp
  · unfold cAt
    by_cases h : r ≤ a.length
    · have := (falls_bound (c := c) (cnt_row a b h).2).2
      rw [(cnt_row a b h).1] at this
      simpa using this
    · rw [List.getD_eq_getElem?_getD (l := cntP eqS a b), List.getElem?_eq_none (by rw [cntP_len]; omega)]; simp
end Go.Proofs.Ytmkjjopflncedaa.AXP
namespace Go.Proofs.Ytmkjjopflncedaa.AX
open Go Go.RowKit AXP
theorem cells_strs (a : List ByteArray) : cellsOf .str a = a.map AV.str := by
  unfold cellsOf
  induction a with
  | nil => rfl
  | cons x a ih => rw [List.flatMap_cons, ih]; rfl
theorem cells_is (a : List Int) : cellsOf .int a = a.map (AV.int .i64) := by
  unfold cellsOf
  induction a with
  | nil => rfl
  | cons x a ih => rw [List.flatMap_cons, ih]; rfl
theorem cells_iss (a : List (List Int)) : cellsOf .ints a = a.map fun l => AV.row .int l := by
  unfold cellsOf
  induction a with
  | nil => rfl
  | cons x a ih => rw [List.flatMap_cons, ih]; rfl
/-- A row of texts, as its cells lie. -/
theorem str_row {w : World} {O : Nat → Prop} {I : Im} {v : Value} {a : List ByteArray} (h : LeafR w O I v (.row .str a)) : ∃ (aa : Option Addr) (ca b off : Nat), v = .slice aa a.length ca ∧ (0 < a.length → aa = some ⟨b, off, none⟩) ∧ ∀ r, r < a.length → w.cell? ⟨b, off + r, none⟩ = some (.string (a.getD r ⟨#[]⟩)) := by
  cases h with
  | row0 => exact ⟨none, 0, 0, 0, rfl, fun h => absurd h (Nat.not_lt_zero _), fun r h => absurd h (Nat.not_lt_zero _)⟩
  | rowz ad c => exact ⟨some ad, c, 0, 0, rfl, fun h => absurd h (Nat.not_lt_zero _), fun r h => absurd h (Nat.not_lt_zero _)⟩
  | row b off c t xs vs hO hc hm hv hl hr =>
    refine ⟨_, c, b, off, rfl, fun _ => rfl, fun r hr' => ?_⟩
    have hcs := cells_strs a
    have hlt : r < vs.length := by rw [hl, hcs, List.length_map]; exact hr'
    have h1 := hv r vs[r] (List.getElem?_eq_getElem hlt)
    have h2 := hr r vs[r] (.str a[r]) (List.getElem?_eq_getElem hlt) (by rw [hcs, List.getElem?_map, List.getElem?_eq_getElem hr']; rfl)
    rw [h1, List.getD_eq_getElem?_getD, List.getElem?_eq_getElem hr']
    generalize vs[r] = u at h2
    cases h2; rfl
theorem int_row {w : World} {O : Nat → Prop} {I : Im} {b c : Nat} {xs : List Int} (hO : ¬ O b) (hc : xs.length ≤ c) (hm : xs.length ≤ maxSl) (h : ∀ j, j < xs.length → w.cell? ⟨b, j, none⟩ = some (.int .i64 (xs.getD j 0))) : LeafR w O I (.slice (some ⟨b, 0, none⟩) xs.length c) (.row .int xs) := by
  refine .row b 0 c .int xs (xs.map (Value.int .i64)) (fun _ => hO) hc hm (fun j u hu => ?_) (by rw [cells_is, List.length_map, List.length_map]) (fun j u x hu hx => ?_)
  · rw [List.getElem?_map, Option.map_eq_some_iff] at hu
    obtain ⟨k, hk, rfl⟩ := hu
    obtain ⟨hj, hk'⟩ := List.getElem?_eq_some_iff.1 hk
    rw [Nat.zero_add, h j hj, List.getD_eq_getElem?_getD, hk]; rfl
  · rw [cells_is, List.getElem?_map, Option.map_eq_some_iff] at hx
    rw [List.getElem?_map, Option.map_eq_some_iff] at hu
    obtain ⟨k, hk, rfl⟩ := hu
    obtain ⟨k', hk', rfl⟩ := hx
    rw [hk] at hk'; injection hk' with hk'; subst hk'
    exact .int _ _
theorem ints_row {w : World} {O : Nat → Prop} {I : Im} {b n m : Nat} {xs : List (List Int)} (hn : xs.length = n) (hO : ∀ k, b ≤ k → ¬ O k) (hm : n ≤ maxSl) (hm2 : m ≤ maxSl) (hl : ∀ l ∈ xs, l.length = m) (h : ∀ j, j < n → w.cell? ⟨b, j, none⟩ = some (.slice (some ⟨b + 1 + j, 0, none⟩) m m))
    (h2 : ∀ j c, j < n → c < m → w.cell? ⟨b + 1 + j, c, none⟩ = some (.int .i64 ((xs.getD j []).getD c 0))) : LeafR w O I (.slice (some ⟨b, 0, none⟩) n n) (.row .ints xs) := by
  subst hn
  refine .row b 0 _ .ints xs ((List.range xs.length).map fun j => .slice (some ⟨b + 1 + j, 0, none⟩) m m) (fun _ => hO b (Nat.le_refl _)) (Nat.le_refl _) hm (fun j u hu => ?_) (by rw [cells_iss, List.length_map, List.length_map, List.length_range]) (fun j u x hu hx => ?_)
  · rw [List.getElem?_map, Option.map_eq_some_iff] at hu
    obtain ⟨k, hk, rfl⟩ := hu
    obtain ⟨hj, hk'⟩ := List.getElem?_eq_some_iff.1 hk
    simp at hk' hj
    subst hk'
    rw [Nat.zero_add]; exact h j hj
  · rw [cells_iss, List.getElem?_map, Option.map_eq_some_iff] at hx
    rw [List.getElem?_map, Option.map_eq_some_iff] at hu
    obtain ⟨k, hk, rfl⟩ := hu
    obtain ⟨l, hl', rfl⟩ := hx
    obtain ⟨hj, hk'⟩ := List.getElem?_eq_some_iff.1 hk
    simp at hk' hj
    subst hk'
    have hll := hl l (List.mem_of_getElem? hl')
    have := int_row (w := w) (O := O) (I := I) (b := b + 1 + j) (c := m) (xs := l) (hO _ (by omega)) (by omega) (by omega) (fun c hc => by
      rw [h2 j c hj (by omega), List.getD_eq_getElem?_getD (l := xs), hl']; rfl)
    rw [hll] at this
    exact this
theorem counts_holds : Holds 109 conCounts := conP_holds fun a b => by
  rcases (show ∃ w : List ByteArray, w = a from ⟨_, rfl⟩) with ⟨a, rfl⟩
  rcases (show ∃ w : List ByteArray, w = b from ⟨_, rfl⟩) with ⟨b, rfl⟩
  intro F I w vals hH hv hpre
  obtain ⟨p1, p2⟩ := hpre _ rfl
  cases hv with | cons a0 q => cases q with | cons a1 q => cases q with | nil =>
  obtain ⟨aa, ca, ba, oa, rfl, ea1, ea2⟩ := str_row (w := w) (O := Own F I) (I := I) (a := a) a0
  obtain ⟨ab, cb, bb, ob, rfl, eb1, eb2⟩ := str_row (w := w) (O := Own F I) (I := I) (a := b) a1
  refine (counts_walk a.length b.length ca cb aa ab ba oa bb ob (fun r => a.getD r ⟨#[]⟩) (fun r => b.getD r ⟨#[]⟩) (cAt a b) w ea1 eb1 ea2 eb2 p1 p2 (cnt_ok a b)).mono ?_
  rintro e w' ⟨rfl, hT⟩
  have hI : ∀ i, I i = none := fun i => hH.hp i
  have hOwn : ∀ k, w.heap.size ≤ k → ¬ Own F I k := fun k hk h => by
    rcases h with h | ⟨id, l, h, _⟩
    · have := hH.out k h; omega
    · rw [hI] at h; cases h
  refine ⟨_, I, rfl, ?_, ⟨fun id => hI id, fun id id' l l' k h => by rw [hI] at h; (cases h), fun id l k h => by rw [hI] at h; (cases h), fun id l k h => by rw [hI] at h; (cases h), fun k hk => Nat.lt_of_lt_of_le (hH.out k hk) hT.since.size⟩, fun p h => (nomatch h), fun i hi => absurd hi (Nat.not_lt_zero _), fun i l k h => by rw [hI] at h; (cases h), hT.since.os, hT.since.tape, hT.since.output, hT.since.size, fun k hk _ => hT.since.block k hk⟩
  refine .leaf (ints_row (cntP_len eqS b a) hOwn (by omega) (m := b.length + 1) (by omega) (fun l hl => ?_) (fun j hj => hT.cellT hj) (fun j c hj hc => (hT.row j hj).cell hc))
  obtain ⟨i, hi, rfl⟩ := List.getElem_of_mem hl
  rw [cntP_len] at hi
  have := (cnt_row a b (r := i) (by omega)).1
  rw [List.getD_eq_getElem?_getD, List.getElem?_eq_getElem (by rw [cntP_len]; exact hi)] at this
  exact this
end Go.Proofs.Ytmkjjopflncedaa.AX
end
section
namespace Go.Proofs.Ytmkjjopflncedaa.AX
open Go AXP
set_option maxRecDepth 100000
theorem rd_strs {a : List ByteArray} {i : Nat} (h : i < a.length) : rd .str a (i : Int) = a.getD i ⟨#[]⟩ := by
  rw [rd_get (t := .str) h, List.getD_eq_getElem?_getD, List.getElem?_eq_getElem h]; rfl
theorem rd_intss {a : List (List Int)} {i : Nat} (h : i < a.length) : rd .ints a (i : Int) = a.getD i [] := by
  rw [rd_get (t := .ints) h, List.getD_eq_getElem?_getD, List.getElem?_eq_getElem h]; rfl
theorem rd_ints {a : List Int} {i : Nat} (h : i < a.length) : rd .int a (i : Int) = a.getD i 0 := by
  rw [rd_get (t := .int) h, List.getD_eq_getElem?_getD, List.getElem?_eq_getElem h]; rfl
/-- A loop whose state falls by a measure. -/
theorem rounds_rec {cx : Cx} {L : Loops} {n b : Nat} {c : Code} {keep left : List (Tmp × Want)} {K : Ex → List AV → List Blk → Prop} {σ : Type} (st : σ → List AV) (bl : σ → List Blk) (P : σ → Prop) (μ : σ → Nat)
    (hstep : ∀ s, P s → ∀ R : List AV → List Blk → Prop, (∀ s', P s' → μ s' < μ s → R (st s') (bl s')) → bodyA cx L n b c keep left (rk K R) (st s) (bl s)) : ∀ (k : Nat) (s : σ), μ s < k → P s → roundsA cx L n b c keep left K k (st s) (bl s)
  | 0, s, h, _ => absurd h (Nat.not_lt_zero _)
  | k + 1, s, h, hp => hstep s hp (roundsA cx L n b c keep left K k) fun s' hp' hm => rounds_rec st bl P μ hstep k s' (by omega) hp'
theorem sum_rec {cx : Cx} {L : Loops} {n b : Nat} {c : Code} {keep left : List (Tmp × Want)} {K : Ex → List AV → List Blk → Prop} {σ : Type} (st : σ → List AV) (bl : σ → List Blk) (P : σ → Prop) (μ : σ → Nat)
    (hstep : ∀ s, P s → ∀ R : List AV → List Blk → Prop, (∀ s', P s' → μ s' < μ s → R (st s') (bl s')) → bodyA cx L n b c keep left (rk K R) (st s) (bl s)) (s : σ) (h : P s) : ∃ m, roundsA cx L n b c keep left K m (st s) (bl s) :=
  ⟨μ s + 1, rounds_rec st bl P μ hstep _ s (Nat.lt_succ_self _) h⟩
theorem line_sum : SumOK cxLine (LL Try.f98 [lsLine]) Try.f98.ntmps (loopAt Try.f98 0).1 (loopAt Try.f98 0).2 lsLine := by
  intro vs bs K hs
  unfold lsLine at hs
  simp only at hs
  split at hs
  case h_2 => exact hs.elim
  rename_i a b n i j out
  obtain ⟨⟨rfl, rfl, rfl, h0, hla, hlb, hsz⟩, h⟩ := hs
  have : out = [] := List.eq_nil_of_length_eq_zero h0
  subst this
  rcases (show ∃ w : List ByteArray, w = a from ⟨_, rfl⟩) with ⟨a, rfl⟩
  rcases (show ∃ w : List ByteArray, w = b from ⟨_, rfl⟩) with ⟨b, rfl⟩
  refine sum_rec (σ := Nat × Nat × List Pr) (fun s => [.row .str a, .row .str b, .row .ints (cntP eqS a b), .own 0 0, .int .i64 s.1, .int .i64 s.2.1]) (fun s => [.rowb 0 .pair s.2.2])
    (fun s => s.1 ≤ a.length ∧ s.2.1 ≤ b.length ∧ s.2.2.length ≤ s.1 ∧ K (.exit 0) [.own 0 0] [.rowb 0 .pair (s.2.2 ++ lineF (eT a b) (gN (cntP eqS a b)) a.length b.length (a.length + b.length - (s.1 + s.2.1)) s.1 s.2.1)])
    (fun s => a.length + b.length - (s.1 + s.2.1)) ?_ (0, 0, []) ⟨Nat.zero_le _, Nat.zero_le _, Nat.le_refl _, by rw [List.nil_append]; exact h⟩
  rintro ⟨i, j, out⟩ ⟨hi, hj, ho, hK⟩ R hR
  dsimp only at hi hj ho hK hR ⊢
  refine Eq.mpr (vcLineB a b _ out i j _) ⟨fun h1 => ⟨fun _ => ⟨fun _ => ⟨fun h2 => ?_, fun h2 => ?_⟩⟩⟩, fun h1 => ⟨fun _ => ?_⟩⟩
  · have h1 : (i : Int) < (a.length : Int) := of_decide_eq_true h1
    have h2 : (j : Int) < (b.length : Int) := of_decide_eq_true h2
    have hia : i < a.length := by omega
    have hjb : j < b.length := by omega
    obtain ⟨f, hf⟩ : ∃ f, a.length + b.length - (i + j) = f + 1 := ⟨a.length + b.length - (i + j) - 1, by omega⟩
    rw [hf, lineF_succ, if_pos ⟨hia, hjb⟩] at hK
    obtain ⟨r1, _⟩ := cnt_row a b (r := i) hi
    obtain ⟨r2, _⟩ := cnt_row a b (r := i + 1) hia
    have hn := cntP_len eqS b a
    rw [rd_strs hia, rd_strs hjb, wrap_succ hia hla, wrap_succ hjb hlb, rd_intss (show i < (cntP eqS a b).length by omega), rd_intss (show i + 1 < (cntP eqS a b).length by omega), rd_ints (show j < ((cntP eqS a b).getD (i + 1) []).length by omega), rd_ints (show j + 1 < ((cntP eqS a b).getD i []).length by omega)]
    refine ⟨⟨by omega, by omega⟩, ⟨⟨by omega, by omega⟩, ⟨fun h3 => ⟨?_, ?_⟩, fun h3 => ⟨⟨by omega, by omega⟩, ⟨⟨by omega, by omega⟩, ⟨⟨by omega, by omega⟩, ⟨⟨by omega, by omega⟩, ⟨fun h4 => ?_, fun h4 => ?_⟩⟩⟩⟩⟩⟩⟩⟩
    · simp only [List.length_cons, List.length_nil]; omega
    · have h3 : eT a b i j = true := h3
      rw [if_pos h3] at hK
      refine hR (i + 1, j + 1, out ++ [⟨i, j, true⟩]) ⟨hia, hjb, by simp; omega, ?_⟩ (by dsimp only; omega)
      dsimp only
      obtain ⟨g, hg⟩ : ∃ g, f = g + 1 ∨ (f = 0 ∧ g = 0) := ⟨f - 1, by omega⟩
      rw [List.append_assoc]
      have e : lineF (eT a b) (gN (cntP eqS a b)) a.length b.length f (i + 1) (j + 1) = lineF (eT a b) (gN (cntP eqS a b)) a.length b.length (a.length + b.length - (i + 1 + (j + 1))) (i + 1) (j + 1) := by
        rw [show f = a.length + b.length - (i + 1 + (j + 1)) + 1 by omega]
        exact lineF_fuel _ _ _ (Nat.le_refl _) hia hjb
      rw [← e]; exact hK
    · have h3 : eT a b i j = false := h3
      have h4 : gN (cntP eqS a b) i j = true := h4
      rw [if_neg (by rw [h3]; decide), if_pos h4] at hK
      refine hR (i + 1, j, out) ⟨hia, hj, by dsimp only; omega, ?_⟩ (by dsimp only; omega)
      dsimp only
      rw [show a.length + b.length - (i + 1 + j) = f by omega]; exact hK
    · have h3 : eT a b i j = false := h3
      have h4 : gN (cntP eqS a b) i j = false := h4
      rw [if_neg (by rw [h3]; decide), if_neg (by rw [h4]; decide)] at hK
      refine hR (i, j + 1, out) ⟨hi, hjb, ho, ?_⟩ (by dsimp only; omega)
      dsimp only
      rw [show a.length + b.length - (i + (j + 1)) = f by omega]; exact hK
  · have h2 : ¬ (j : Int) < (b.length : Int) := of_decide_eq_false h2
    have e : lineF (eT a b) (gN (cntP eqS a b)) a.length b.length (a.length + b.length - (i + j)) i j = [] := by
      cases a.length + b.length - (i + j) with
      | zero => rfl
      | succ f => rw [lineF_succ, if_neg (by omega)]
    rw [e, List.append_nil] at hK
    exact hK
  · have h1 : ¬ (i : Int) < (a.length : Int) := of_decide_eq_false h1
    have e : lineF (eT a b) (gN (cntP eqS a b)) a.length b.length (a.length + b.length - (i + j)) i j = [] := by
      cases a.length + b.length - (i + j) with
      | zero => rfl
      | succ f => rw [lineF_succ, if_neg (by omega)]
    rw [e, List.append_nil] at hK
    exact hK
theorem line_holds : Holds 98 conLine := conP_holds fun a b => by
  refine fun_meets1 (AllH.tok (.cons counts_holds (by kernel_rfl) .nil)) [.own .pair] lsLine (by kernel_rfl) (by kernel_rfl) line_sum fun hpre => Eq.mpr (vcLineF a b _) ?_
  obtain ⟨h1, h2, h3⟩ := hpre _ rfl
  exact ⟨⟨h1, h2⟩, ⟨⟨rfl, rfl, rfl, rfl, by omega, by omega, h3⟩, qfin rfl rfl rfl rfl⟩⟩
end Go.Proofs.Ytmkjjopflncedaa.AX
end
section
namespace Go.Proofs.Ytmkjjopflncedaa.AXP
open Go Go.Proofs.Ytmkjjopflncedaa.AX
def hasJ (a b : List ByteArray) (i tb j : Int) : Bool := (findJ (eT a b i.toNat) (tb.toNat - j.toNat) j.toNat).isSome
def getJ (a b : List ByteArray) (i tb j : Int) : Int := (((findJ (eT a b i.toNat) (tb.toNat - j.toNat) j.toNat).getD 0 : Nat) : Int)
def alikeI (a b : List ByteArray) (ta tb i fr : Int) : List Pr := alikeS (eT a b) tb.toNat (ta.toNat - i.toNat) i.toNat fr.toNat
/-- Gaps from a place on; the last pair stands for the ends. -/
def gapsI (x y : List ByteArray) : List Pr → Int → Int → List Pr
  | [], _, _ => []
  | p :: ps, ga, gb => alikeI x y p.a p.b ga gb ++ p :: gapsI x y ps (p.a + 1) (p.b + 1)
/-- Pairs that rise. -/
def RiseI (la lb : Nat) : Int → Int → List Pr → Prop
  | _, _, [] => True
  | i, j, p :: ps => i ≤ p.a ∧ j ≤ p.b ∧ p.a ≤ la ∧ p.b ≤ lb ∧ RiseI la lb (p.a + 1) (p.b + 1) ps
end Go.Proofs.Ytmkjjopflncedaa.AXP
namespace Go.Proofs.Ytmkjjopflncedaa.AX
open Go AXP
def lsAlO : LS where
  keep := [(3, .as), (1, .as), (2, .as), (7, .own .pair), (8, .as), (9, .as)]
  left := [(7, .own .pair)]
  sum := fun vs bs K => match vs, bs with
    | [.ptr 0 0, .row .str a, .row .str b, .own 1 0, .int .i64 fr, .int .i64 i], [.box [.int .i64 ga, .int .i64 gb, .int .i64 ta, .int .i64 tb], .rowb 0 .pair out] =>
      Rq (0 ≤ i ∧ i ≤ a.length ∧ ta ≤ a.length ∧ 0 ≤ fr ∧ tb ≤ b.length ∧ a.length ≤ maxSl ∧ b.length ≤ maxSl ∧ (out.length + (ta.toNat - i.toNat)) * 24 ≤ maxSl) (K (.exit 0) [.own 0 0] [.rowb 0 .pair (out ++ alikeI a b ta tb i fr)])
    | _, _ => False
def lsAlI : LS where
  keep := [(3, .as), (1, .as), (2, .as), (7, .own .pair), (8, .as), (9, .as), (10, .as)]
  left := [(3, .as), (1, .as), (2, .as), (7, .own .pair), (8, .as), (9, .as)]
  sum := fun vs bs K => match vs, bs with
    | [.ptr 0 0, .row .str a, .row .str b, .own 1 0, .int .i64 fr, .int .i64 i, .int .i64 j], [.box [.int .i64 ga, .int .i64 gb, .int .i64 ta, .int .i64 tb], .rowb 0 .pair out] =>
      Rq (0 ≤ i ∧ i < a.length ∧ 0 ≤ j ∧ tb ≤ b.length ∧ b.length ≤ maxSl ∧ (out.length + 1) * 24 ≤ maxSl)
        (Br (hasJ a b i tb j) (K (.exit 1) [.ptr 0 0, .row .str a, .row .str b, .own 1 0, .int .i64 (getJ a b i tb j + 1), .int .i64 i] [.box [.int .i64 ga, .int .i64 gb, .int .i64 ta, .int .i64 tb], .rowb 0 .pair (out ++ [⟨i, getJ a b i tb j, false⟩])])
          (K (.exit 2) [.ptr 0 0, .row .str a, .row .str b, .own 1 0, .int .i64 fr, .int .i64 i] [.box [.int .i64 ga, .int .i64 gb, .int .i64 ta, .int .i64 tb], .rowb 0 .pair out]))
    | _, _ => False
def conAlike : Con := fun args hp => match args, hp with
  | [.agg [.int .i64 ga, .int .i64 gb, .int .i64 ta, .int .i64 tb], x, y], [] => (rowOf .str x).bind fun (a : List ByteArray) => (rowOf .str y).bind fun (b : List ByteArray) =>
    some { pre := some (0 ≤ ga ∧ ga ≤ a.length ∧ ta ≤ a.length ∧ 0 ≤ gb ∧ tb ≤ b.length ∧ a.length * 24 ≤ maxSl ∧ b.length ≤ maxSl), res := .own 0 0, extra := [.rowb 0 .pair (alikeI a b ta tb ga gb)] }
  | _, _ => none
noncomputable def cxLists : Cx := cxT (tabLook [(98, conLine), (99, conOr conTextsK conTextsL), (102, conAlike)])
def lsLists : LS where
  keep := [(6, .row .str), (7, .row .str), (8, .own .pair), (9, .as), (29, .row .pair), (30, .as), (31, .as)]
  left := [(8, .own .pair)]
  sum := fun vs bs K => match vs, bs with
    | [.row .str x, .row .str y, .own 0 0, .ptr 1 0, .row .pair ps, .int .i64 m, .int .i64 i], [.rowb 0 .pair out, .box [.int .i64 ga, .int .i64 gb, .int .i64 ta, .int .i64 tb]] =>
      Rq (m = ps.length ∧ i = 0 ∧ out.length = 0 ∧ ga = 0 ∧ gb = 0 ∧ RiseI x.length y.length 0 0 ps ∧ (x.length + 1) * 24 ≤ maxSl ∧ y.length + 1 ≤ maxSl) (K (.exit 0) [.own 0 0] [.rowb 0 .pair (gapsI x y ps 0 0)])
    | _, _ => False
def conLists : Con := conP [.row .node, .row .node] fun (a b : List Nd) => { pre := some ((a.length + b.length + 2) * 24 ≤ maxSl ∧ (∀ n ∈ a, PKey n) ∧ ∀ n ∈ b, PKey n), res := .own 0 0, extra := [.rowb 0 .pair (pairsS a b)] }
end Go.Proofs.Ytmkjjopflncedaa.AX
end
section
namespace Go.Proofs.Ytmkjjopflncedaa.AX
open Go AXP
set_option maxRecDepth 100000
theorem vcAlI (a b : List ByteArray) (ga gb ta tb fr i j : Int) (out : List Pr) (K : Ex → List AV → List Blk → Prop) : (bodyA cx0 (LL Try.f102 [lsAlO, lsAlI]) Try.f102.ntmps (loopAt Try.f102 1).1 (loopAt Try.f102 1).2 lsAlI.keep lsAlI.left K [.ptr 0 0, .row .str a, .row .str b, .own 1 0, .int .i64 fr, .int .i64 i, .int .i64 j] [.box [.int .i64 ga, .int .i64 gb, .int .i64 ta, .int .i64 tb], .rowb 0 .pair out]) = (
Br (decide (j < tb))
  (Rq ((0 : Int) ≤ i ∧ i < (↑a.length : Int))
    (Rq ((0 : Int) ≤ j ∧ j < (↑b.length : Int))
      (Br (eqS (rd Ty.str a i) (rd Ty.str b j))
        (Rq ((out.length + [Pr.mk i j false].length) * (24 : Nat) ≤ maxSl)
          (K (Ex.exit (1 : Nat))
            [AV.ptr (0 : Nat) (0 : Nat), AV.row Ty.str a, AV.row Ty.str b, AV.own ((0 : Nat) + (1 : Nat)) (0 : Nat),
              AV.int IntKind.i64 (IntKind.i64.wrap (j + (1 : Int))), AV.int IntKind.i64 i]
            [Blk.box [AV.int IntKind.i64 ga, AV.int IntKind.i64 gb, AV.int IntKind.i64 ta, AV.int IntKind.i64 tb],
              Blk.rowb (0 : Nat) Ty.pair (out ++ [Pr.mk i j false])]))
        (K Ex.norm
          [AV.ptr (0 : Nat) (0 : Nat), AV.row Ty.str a, AV.row Ty.str b, AV.own ((0 : Nat) + (1 : Nat)) (0 : Nat),
            AV.int IntKind.i64 fr, AV.int IntKind.i64 i, AV.int IntKind.i64 (IntKind.i64.wrap (j + (1 : Int)))]
          [Blk.box [AV.int IntKind.i64 ga, AV.int IntKind.i64 gb, AV.int IntKind.i64 ta, AV.int IntKind.i64 tb],
            Blk.rowb (0 : Nat) Ty.pair out]))))
  (K (Ex.exit (2 : Nat))
    [AV.ptr (0 : Nat) (0 : Nat), AV.row Ty.str a, AV.row Ty.str b, AV.own ((0 : Nat) + (1 : Nat)) (0 : Nat),
      AV.int IntKind.i64 fr, AV.int IntKind.i64 i]
    [Blk.box [AV.int IntKind.i64 ga, AV.int IntKind.i64 gb, AV.int IntKind.i64 ta, AV.int IntKind.i64 tb],
      Blk.rowb (0 : Nat) Ty.pair out])) := by kernel_rfl
theorem vcAlO (a b : List ByteArray) (ga gb ta tb fr i : Int) (out : List Pr) (K : Ex → List AV → List Blk → Prop) : (bodyA cx0 (LL Try.f102 [lsAlO, lsAlI]) Try.f102.ntmps (loopAt Try.f102 0).1 (loopAt Try.f102 0).2 lsAlO.keep lsAlO.left K [.ptr 0 0, .row .str a, .row .str b, .own 1 0, .int .i64 fr, .int .i64 i] [.box [.int .i64 ga, .int .i64 gb, .int .i64 ta, .int .i64 tb], .rowb 0 .pair out]) = (
Br (decide (i < ta))
  (Rq
    ((0 : Int) ≤ i ∧
      i < (↑a.length : Int) ∧
        (0 : Int) ≤ fr ∧ tb ≤ (↑b.length : Int) ∧ b.length ≤ maxSl ∧ (out.length + (1 : Nat)) * (24 : Nat) ≤ maxSl)
    (Br (hasJ a b i tb fr)
      (K Ex.norm
        [AV.ptr (0 : Nat) (0 : Nat), AV.row Ty.str a, AV.row Ty.str b, AV.own ((0 : Nat) + (1 : Nat)) (0 : Nat),
          AV.int IntKind.i64 (getJ a b i tb fr + (1 : Int)), AV.int IntKind.i64 (IntKind.i64.wrap (i + (1 : Int)))]
        [Blk.box [AV.int IntKind.i64 ga, AV.int IntKind.i64 gb, AV.int IntKind.i64 ta, AV.int IntKind.i64 tb],
          Blk.rowb (0 : Nat) Ty.pair (out ++ [Pr.mk i (getJ a b i tb fr) false])])
      (K Ex.norm
        [AV.ptr (0 : Nat) (0 : Nat), AV.row Ty.str a, AV.row Ty.str b, AV.own ((0 : Nat) + (1 : Nat)) (0 : Nat),
          AV.int IntKind.i64 fr, AV.int IntKind.i64 (IntKind.i64.wrap (i + (1 : Int)))]
        [Blk.box [AV.int IntKind.i64 ga, AV.int IntKind.i64 gb, AV.int IntKind.i64 ta, AV.int IntKind.i64 tb],
          Blk.rowb (0 : Nat) Ty.pair out])))
  (K (Ex.exit (0 : Nat)) [AV.own (0 : Nat) (0 : Nat)] [Blk.rowb (0 : Nat) Ty.pair out])) := by kernel_rfl
theorem vcAlF (a b : List ByteArray) (ga gb ta tb : Int) (Q : List AV → List Blk → List Blk → Prop) : (funA cx0 (LL Try.f102 [lsAlO, lsAlI]) Try.f102 [.agg [.int .i64 ga, .int .i64 gb, .int .i64 ta, .int .i64 tb], .row .str a, .row .str b] [] [.own .pair] Q) = (
Rq
  ((0 : Int) ≤ ga ∧
    ga ≤ (↑a.length : Int) ∧
      ta ≤ (↑a.length : Int) ∧
        (0 : Int) ≤ gb ∧
          tb ≤ (↑b.length : Int) ∧
            a.length ≤ maxSl ∧ b.length ≤ maxSl ∧ ((0 : Nat) + (ta.toNat - ga.toNat)) * (24 : Nat) ≤ maxSl)
  (Q [AV.own (0 : Nat) (0 : Nat)] [] [Blk.rowb (0 : Nat) Ty.pair (alikeI a b ta tb ga gb)])) := by kernel_rfl
theorem vcListsB (x y : List ByteArray) (out ps : List Pr) (ga gb ta tb m i : Int) (K : Ex → List AV → List Blk → Prop) : (bodyA cxLists (LL Try.f74 [lsLists]) Try.f74.ntmps (loopAt Try.f74 0).1 (loopAt Try.f74 0).2 lsLists.keep lsLists.left K [.row .str x, .row .str y, .own 0 0, .ptr 1 0, .row .pair ps, .int .i64 m, .int .i64 i] [.rowb 0 .pair out, .box [.int .i64 ga, .int .i64 gb, .int .i64 ta, .int .i64 tb]]) = (
Br (decide (i < m))
  (Rq ((0 : Int) ≤ i ∧ i < (↑ps.length : Int))
    (Rq
      ((0 : Int) ≤ ga ∧
        ga ≤ (↑x.length : Int) ∧
          (rd Ty.pair ps i).1 ≤ (↑x.length : Int) ∧
            (0 : Int) ≤ gb ∧ (rd Ty.pair ps i).2 ≤ (↑y.length : Int) ∧ x.length * (24 : Nat) ≤ maxSl ∧ y.length ≤ maxSl)
      (Rq ((out.length + (alikeI x y (rd Ty.pair ps i).1 (rd Ty.pair ps i).2 ga gb).length) * (24 : Nat) ≤ maxSl)
        (Rq
          (((out ++ alikeI x y (rd Ty.pair ps i).1 (rd Ty.pair ps i).2 ga gb).length +
                [Pr.mk (rd Ty.pair ps i).1 (rd Ty.pair ps i).2 (rd Ty.pair ps i).3].length) *
              (24 : Nat) ≤
            maxSl)
          (K Ex.norm
            [AV.row Ty.str x, AV.row Ty.str y, AV.own (0 : Nat) (0 : Nat), AV.ptr ((0 : Nat) + (1 : Nat)) (0 : Nat),
              AV.row Ty.pair ps, AV.int IntKind.i64 m, AV.int IntKind.i64 (IntKind.i64.wrap (i + (1 : Int)))]
            [Blk.rowb (0 : Nat) Ty.pair
                (out ++ alikeI x y (rd Ty.pair ps i).1 (rd Ty.pair ps i).2 ga gb ++
                  [Pr.mk (rd Ty.pair ps i).1 (rd Ty.pair ps i).2 (rd Ty.pair ps i).3]),
              Blk.box
                [AV.int IntKind.i64 (IntKind.i64.wrap ((rd Ty.pair ps i).1 + (1 : Int))),
                  AV.int IntKind.i64 (IntKind.i64.wrap ((rd Ty.pair ps i).2 + (1 : Int))),
                  AV.int IntKind.i64 (rd Ty.pair ps i).1, AV.int IntKind.i64 (rd Ty.pair ps i).2]])))))
  (K (Ex.exit (0 : Nat)) [AV.own (0 : Nat) (0 : Nat)] [Blk.rowb (0 : Nat) Ty.pair out])) := by kernel_rfl
theorem vcListsF (a b : List Nd) (Q : List AV → List Blk → List Blk → Prop) : (funA cxLists (LL Try.f74 [lsLists]) Try.f74 [.row .node a, .row .node b] [] [.own .pair] Q) = (
Rq (a.length * (16 : Nat) ≤ maxSl ∧ ∀ (n : Nd), n ∈ a → PKey n)
  (Rq (b.length * (16 : Nat) ≤ maxSl ∧ ∀ (n : Nd), n ∈ b → PKey n)
    (Rq
      (((List.map keyS a).length + (1 : Nat)) * (24 : Nat) ≤ maxSl ∧
        ((List.map keyS b).length + (1 : Nat)) * (8 : Nat) ≤ maxSl ∧
          ((List.map keyS a).length + (List.map keyS b).length) * (24 : Nat) ≤ maxSl)
      (Rq (a.length * (16 : Nat) ≤ maxSl ∧ ∀ (n : Nd), n ∈ a → PLab n)
        (Rq (b.length * (16 : Nat) ≤ maxSl ∧ ∀ (n : Nd), n ∈ b → PLab n)
          (Rq
            (((lineT (List.map keyS a) (List.map keyS b)).length +
                  [Pr.mk (↑a.length : Int) (↑b.length : Int) true].length) *
                (24 : Nat) ≤
              maxSl)
            (Gv (a.length ≤ maxSl)
              (Gv (b.length ≤ maxSl)
                (Gv
                  ((lineT (List.map keyS a) (List.map keyS b) ++
                        [Pr.mk (↑a.length : Int) (↑b.length : Int) true]).length ≤
                    maxSl)
                  (Rq
                    ((↑(lineT (List.map keyS a) (List.map keyS b) ++
                                [Pr.mk (↑a.length : Int) (↑b.length : Int) true]).length :
                          Int) =
                        (↑(lineT (List.map keyS a) (List.map keyS b) ++
                                [Pr.mk (↑a.length : Int) (↑b.length : Int) true]).length :
                          Int) ∧
                      (0 : Int) = (0 : Int) ∧
                        (0 : Nat) = (0 : Nat) ∧
                          (0 : Int) = (0 : Int) ∧
                            (0 : Int) = (0 : Int) ∧
                              RiseI (List.map labS a).length (List.map labS b).length (0 : Int) (0 : Int)
                                  (lineT (List.map keyS a) (List.map keyS b) ++
                                    [Pr.mk (↑a.length : Int) (↑b.length : Int) true]) ∧
                                ((List.map labS a).length + (1 : Nat)) * (24 : Nat) ≤ maxSl ∧
                                  (List.map labS b).length + (1 : Nat) ≤ maxSl)
                    (Rq
                      ((0 : Int) ≤
                          IntKind.i64.wrap
                            ((↑(gapsI (List.map labS a) (List.map labS b)
                                      (lineT (List.map keyS a) (List.map keyS b) ++
                                        [Pr.mk (↑a.length : Int) (↑b.length : Int) true])
                                      (0 : Int) (0 : Int)).length :
                                Int) -
                              (1 : Int)) ∧
                        IntKind.i64.wrap
                            ((↑(gapsI (List.map labS a) (List.map labS b)
                                      (lineT (List.map keyS a) (List.map keyS b) ++
                                        [Pr.mk (↑a.length : Int) (↑b.length : Int) true])
                                      (0 : Int) (0 : Int)).length :
                                Int) -
                              (1 : Int)) ≤
                          (↑(gapsI (List.map labS a) (List.map labS b)
                                  (lineT (List.map keyS a) (List.map keyS b) ++
                                    [Pr.mk (↑a.length : Int) (↑b.length : Int) true])
                                  (0 : Int) (0 : Int)).length :
                            Int))
                      (Gv
                        ((gapsI (List.map labS a) (List.map labS b)
                              (lineT (List.map keyS a) (List.map keyS b) ++
                                [Pr.mk (↑a.length : Int) (↑b.length : Int) true])
                              (0 : Int) (0 : Int)).length ≤
                          maxSl)
                        (Q [AV.own (0 : Nat) (0 : Nat)] []
                          [Blk.rowb (0 : Nat) Ty.pair
                              (List.take
                                (IntKind.i64.wrap
                                    ((↑(gapsI (List.map labS a) (List.map labS b)
                                              (lineT (List.map keyS a) (List.map keyS b) ++
                                                [Pr.mk (↑a.length : Int) (↑b.length : Int) true])
                                              (0 : Int) (0 : Int)).length :
                                        Int) -
                                      (1 : Int))).toNat
                                (gapsI (List.map labS a) (List.map labS b)
                                  (lineT (List.map keyS a) (List.map keyS b) ++
                                    [Pr.mk (↑a.length : Int) (↑b.length : Int) true])
                                  (0 : Int) (0 : Int)))]))))))))))))) := by kernel_rfl
end Go.Proofs.Ytmkjjopflncedaa.AX
end
section
namespace Go.Proofs.Ytmkjjopflncedaa.AXP
open Go Go.Proofs.Ytmkjjopflncedaa.AX
theorem alikeS_len {lab : Nat → Nat → Bool} {toB : Nat} : ∀ (f i fr : Nat), (alikeS lab toB f i fr).length ≤ f
  | 0, _, _ => Nat.le_refl _
  | f + 1, i, fr => by
    rw [alikeS]
    split
    · have := alikeS_len (lab := lab) (toB := toB) f (i + 1) (‹Nat› + 1)
      simp only [List.length_cons]; omega
    · have := alikeS_len (lab := lab) (toB := toB) f (i + 1) fr
      omega
theorem findJ_congr {e e' : Nat → Bool} {lb : Nat} (h : ∀ j, j < lb → e j = e' j) : ∀ (f j : Nat), j + f ≤ lb → findJ e f j = findJ e' f j
  | 0, _, _ => rfl
  | f + 1, j, hj => by rw [findJ, findJ, h j (by omega), findJ_congr h f (j + 1) (by omega)]
theorem alikeS_congr {e e' : Nat → Nat → Bool} {la lb toB : Nat} (h : ∀ i j, i < la → j < lb → e i j = e' i j) (hB : toB ≤ lb) : ∀ (f i fr : Nat), i + f ≤ la → fr ≤ toB → alikeS e toB f i fr = alikeS e' toB f i fr
  | 0, _, _, _, _ => rfl
  | f + 1, i, fr, hi, hfr => by
    rw [alikeS, alikeS, findJ_congr (fun j hj => h i j (by omega) hj) (toB - fr) fr (by omega)]
    cases hj : findJ (e' i) (toB - fr) fr with
    | none => exact alikeS_congr h hB f (i + 1) fr (by omega) hfr
    | some j =>
      have := findJ_some hj
      exact congrArg _ (alikeS_congr h hB f (i + 1) (j + 1) (by omega) (by omega))
theorem gapsS_congr {e e' g : Nat → Nat → Bool} {la lb : Nat} (h : ∀ i j, i < la → j < lb → e i j = e' i j) : ∀ {ps : List Pr} {ga gb : Nat}, Rise g la lb ga gb ps → ga ≤ la → gb ≤ lb → gapsS e la lb ps ga gb = gapsS e' la lb ps ga gb
  | [], ga, gb, _, ha, hb => by rw [gapsS, gapsS, alikeS_congr h (Nat.le_refl _) _ _ _ (by omega) hb]
  | p :: ps, ga, gb, hr, ha, hb => by
    obtain ⟨x, y, rfl, h1, h2, h3, h4, h5, h6⟩ := hr
    rw [gapsS, gapsS]
    simp only [Int.toNat_natCast]
    rw [alikeS_congr h (Nat.le_of_lt h4) _ _ _ (by omega) h2, gapsS_congr h h6 (by omega) (by omega)]
theorem map_getD {β : Type} {f : Nd → β} {a : List Nd} {i : Nat} {d : β} (h : i < a.length) : (a.map f).getD i d = f (a.getD i default) := by
  rw [List.getD_eq_getElem?_getD, List.getElem?_map, List.getElem?_eq_getElem h, List.getD_eq_getElem?_getD, List.getElem?_eq_getElem h]; rfl
theorem eqS_key (x y : Nd) : eqS (keyS x) (keyS y) = eqNd x y := by
  rw [Bool.eq_iff_iff, eqS_iff, key_inj, eqNd_iff]
theorem eqS_lab (x y : Nd) : eqS (labS x) (labS y) = alN x y := by
  rw [Bool.eq_iff_iff, eqS_iff, lab_inj]
  unfold alN
  simp only [Bool.and_eq_true, beq_iff_eq, eqS_iff]
  exact ⟨fun h => ⟨⟨h.1, h.2.1⟩, h.2.2⟩, fun h => ⟨h.1.1, h.1.2, h.2⟩⟩
theorem eT_key {a b : List Nd} {i j : Nat} (hi : i < a.length) (hj : j < b.length) : eT (a.map keyS) (b.map keyS) i j = eN a b i j := by
  unfold eT eN; rw [map_getD hi, map_getD hj, eqS_key]
theorem eT_lab {a b : List Nd} {i j : Nat} (hi : i < a.length) (hj : j < b.length) : eT (a.map labS) (b.map labS) i j = lN a b i j := by
  unfold eT lN; rw [map_getD hi, map_getD hj, eqS_lab]
theorem lineT_whole (a b : List Nd) : lineT (a.map keyS) (b.map keyS) = wholeS a b := by
  unfold lineT wholeS
  rw [List.length_map, List.length_map, cntP_map eqNd eqS keyS keyS b a (fun x _ y _ => eqS_key x y)]
  exact lineF_congr (fun i j hi hj => eT_key hi hj) (fun _ _ _ _ => rfl) _ _ _
theorem whole_rise (a b : List Nd) : Rise (eN a b) a.length b.length 0 0 (wholeS a b) := lineF_rise _ _ _
theorem listsT_pairs (a b : List Nd) : listsT a b = pairsS a b := by
  unfold listsT gapsT pairsS
  rw [lineT_whole]
  exact gapsS_congr (fun i j hi hj => eT_lab hi hj) (whole_rise a b) (Nat.zero_le _) (Nat.zero_le _)
theorem rise_I {g : Nat → Nat → Bool} {la lb : Nat} : ∀ {ps : List Pr} {i j : Nat}, Rise g la lb i j ps → i ≤ la → j ≤ lb → RiseI la lb i j (ps ++ [⟨la, lb, true⟩])
  | [], i, j, _, hi, hj => ⟨by show (i : Int) ≤ la; omega, by show (j : Int) ≤ lb; omega, Int.le_refl _, Int.le_refl _, trivial⟩
  | p :: ps, i, j, h, hi, hj => by
    obtain ⟨x, y, rfl, h1, h2, h3, h4, _, h6⟩ := h
    refine ⟨by show (i : Int) ≤ x; omega, by show (j : Int) ≤ y; omega, by show (x : Int) ≤ la; omega, by show (y : Int) ≤ lb; omega, ?_⟩
    have := rise_I h6 (by omega) (by omega)
    exact this
theorem riseI_len {la lb : Nat} : ∀ {ps : List Pr} {i j : Int}, RiseI la lb i j ps → i ≤ la + 1 → (ps.length : Int) + i ≤ la + 1
  | [], i, j, _, hi => by simpa using hi
  | p :: ps, i, j, h, hi => by
    obtain ⟨h1, h2, h3, h4, h5⟩ := h
    have := riseI_len h5 (by omega)
    simp only [List.length_cons]; omega
theorem gapsI_eq {g : Nat → Nat → Bool} {x y : List ByteArray} {la lb : Nat} : ∀ {ps : List Pr} {i j : Nat}, Rise g la lb i j ps → gapsI x y (ps ++ [⟨la, lb, true⟩]) i j = gapsS (eT x y) la lb ps i j ++ [⟨la, lb, true⟩]
  | [], i, j, _ => by
    rw [List.nil_append, gapsI, gapsI, gapsS]
    unfold alikeI
    simp only [Int.toNat_natCast]
  | p :: ps, i, j, h => by
    obtain ⟨u, v, rfl, h1, h2, h3, h4, _, h6⟩ := h
    rw [List.cons_append, gapsI, gapsS]
    have := gapsI_eq (x := x) (y := y) h6
    rw [show (((u + 1 : Nat)) : Int) = (u : Int) + 1 by omega, show (((v + 1 : Nat)) : Int) = (v : Int) + 1 by omega] at this
    rw [this]
    unfold alikeI
    simp only [Int.toNat_natCast, List.append_assoc, List.cons_append]
theorem riseL_len {e lab : Nat → Nat → Bool} {la lb : Nat} : ∀ {ps : List Pr} {i j : Nat}, RiseL e lab la lb i j ps → i ≤ la → ps.length + i ≤ la
  | [], i, j, _, hi => by simpa using hi
  | p :: ps, i, j, h, hi => by
    obtain ⟨u, v, w, rfl, h1, h2, h3, h4, _, _, h6⟩ := h
    have := riseL_len h6 (by omega)
    simp only [List.length_cons]; omega
theorem line_len {e g : Nat → Nat → Bool} {la lb : Nat} : ∀ {ps : List Pr} {i j : Nat}, Rise e la lb i j ps → i ≤ la → ps.length + i ≤ la
  | [], i, j, _, hi => by simpa using hi
  | p :: ps, i, j, h, hi => by
    obtain ⟨u, v, rfl, h1, h2, h3, h4, _, h6⟩ := h
    have := line_len (e := e) (g := g) h6 (by omega)
    simp only [List.length_cons]; omega
end Go.Proofs.Ytmkjjopflncedaa.AXP
namespace Go.Proofs.Ytmkjjopflncedaa.AX
open Go AXP
set_option maxRecDepth 100000
theorem alI_sum : SumOK cx0 (LL Try.f102 [lsAlO, lsAlI]) Try.f102.ntmps (loopAt Try.f102 1).1 (loopAt Try.f102 1).2 lsAlI := by
  intro vs bs K hs
  unfold lsAlI at hs
  simp only at hs
  split at hs
  case h_2 => exact hs.elim
  rename_i a b fr i j ga gb ta tb out
  obtain ⟨⟨hi, hia, hj, htb, hlb, ho⟩, h⟩ := hs
  rcases (show ∃ w : List ByteArray, w = a from ⟨_, rfl⟩) with ⟨a, rfl⟩
  rcases (show ∃ w : List ByteArray, w = b from ⟨_, rfl⟩) with ⟨b, rfl⟩
  obtain ⟨i, rfl⟩ : ∃ m : Nat, i = m := ⟨i.toNat, by omega⟩
  obtain ⟨j, rfl⟩ : ∃ m : Nat, j = m := ⟨j.toNat, by omega⟩
  have hia : i < a.length := by omega
  refine sum_rec (σ := Nat) (fun j => [.ptr 0 0, .row .str a, .row .str b, .own 1 0, .int .i64 fr, .int .i64 i, .int .i64 j]) (fun _ => [.box [.int .i64 ga, .int .i64 gb, .int .i64 ta, .int .i64 tb], .rowb 0 .pair out])
    (fun j => Br (hasJ a b i tb j) (K (.exit 1) [.ptr 0 0, .row .str a, .row .str b, .own 1 0, .int .i64 (getJ a b i tb j + 1), .int .i64 i] [.box [.int .i64 ga, .int .i64 gb, .int .i64 ta, .int .i64 tb], .rowb 0 .pair (out ++ [⟨i, getJ a b i tb j, false⟩])])
          (K (.exit 2) [.ptr 0 0, .row .str a, .row .str b, .own 1 0, .int .i64 fr, .int .i64 i] [.box [.int .i64 ga, .int .i64 gb, .int .i64 ta, .int .i64 tb], .rowb 0 .pair out]))
    (fun j => tb.toNat - j) ?_ j h
  intro j hP R hR
  refine Eq.mpr (vcAlI a b ga gb ta tb fr i j out _) ⟨fun h1 => ?_, fun h1 => ?_⟩
  · have h1 : (j : Int) < tb := of_decide_eq_true h1
    have hjb : j < b.length := by omega
    obtain ⟨f, hf⟩ : ∃ f, tb.toNat - j = f + 1 := ⟨tb.toNat - j - 1, by omega⟩
    rw [rd_strs hia, rd_strs hjb, wrap_succ hjb hlb]
    refine ⟨⟨by omega, by omega⟩, ⟨⟨by omega, by omega⟩, ⟨fun h2 => ⟨ho, ?_⟩, fun h2 => ?_⟩⟩⟩
    · have h2 : eT a b i j = true := h2
      have hh : findJ (eT a b i) (tb.toNat - j) j = some j := by rw [hf, findJ, if_pos h2]
      have e1 : hasJ a b i tb j = true := by unfold hasJ; rw [Int.toNat_natCast, Int.toNat_natCast, hh]; rfl
      have e2 : getJ a b i tb j = j := by unfold getJ; rw [Int.toNat_natCast, Int.toNat_natCast, hh]; rfl
      have := hP.yes e1
      rw [e2] at this
      exact this
    · have h2 : eT a b i j = false := h2
      have hh : findJ (eT a b i) (tb.toNat - j) j = findJ (eT a b i) (tb.toNat - (j + 1)) (j + 1) := by
        rw [hf, findJ, if_neg (by rw [h2]; decide), show tb.toNat - (j + 1) = f by omega]
      have e1 : hasJ a b i tb j = hasJ a b i tb (j + 1 : Nat) := by unfold hasJ; simp only [Int.toNat_natCast]; rw [hh]
      have e2 : getJ a b i tb j = getJ a b i tb (j + 1 : Nat) := by unfold getJ; simp only [Int.toNat_natCast]; rw [hh]
      rw [e1, e2] at hP
      exact hR (j + 1) hP (by omega)
  · have h1 : ¬ (j : Int) < tb := of_decide_eq_false h1
    have e1 : hasJ a b i tb j = false := by unfold hasJ; simp only [Int.toNat_natCast]; rw [show tb.toNat - j = 0 by omega]; rfl
    exact hP.no e1
theorem alO_sum : SumOK cx0 (LL Try.f102 [lsAlO, lsAlI]) Try.f102.ntmps (loopAt Try.f102 0).1 (loopAt Try.f102 0).2 lsAlO := by
  intro vs bs K hs
  unfold lsAlO at hs
  simp only at hs
  split at hs
  case h_2 => exact hs.elim
  rename_i a b fr i ga gb ta tb out
  obtain ⟨⟨hi, hia, hta, hfr, htb, hla, hlb, ho⟩, h⟩ := hs
  rcases (show ∃ w : List ByteArray, w = a from ⟨_, rfl⟩) with ⟨a, rfl⟩
  rcases (show ∃ w : List ByteArray, w = b from ⟨_, rfl⟩) with ⟨b, rfl⟩
  obtain ⟨i, rfl⟩ : ∃ m : Nat, i = m := ⟨i.toNat, by omega⟩
  obtain ⟨fr, rfl⟩ : ∃ m : Nat, fr = m := ⟨fr.toNat, by omega⟩
  rw [Int.toNat_natCast] at ho
  refine sum_rec (σ := Nat × Nat × List Pr) (fun s => [.ptr 0 0, .row .str a, .row .str b, .own 1 0, .int .i64 s.2.1, .int .i64 s.1]) (fun s => [.box [.int .i64 ga, .int .i64 gb, .int .i64 ta, .int .i64 tb], .rowb 0 .pair s.2.2])
    (fun s => s.1 ≤ a.length ∧ (s.2.2.length + (ta.toNat - s.1)) * 24 ≤ maxSl ∧ K (.exit 0) [.own 0 0] [.rowb 0 .pair (s.2.2 ++ alikeI a b ta tb s.1 s.2.1)])
    (fun s => ta.toNat - s.1) ?_ (i, fr, out) ⟨by dsimp only; omega, ho, h⟩
  rintro ⟨i, fr, out⟩ ⟨hi, ho, hK⟩ R hR
  dsimp only at hi ho hK hR ⊢
  refine Eq.mpr (vcAlO a b ga gb ta tb fr i out _) ⟨fun h1 => ?_, fun h1 => ?_⟩
  · have h1 : (i : Int) < ta := of_decide_eq_true h1
    have hia : i < a.length := by omega
    obtain ⟨f, hf⟩ : ∃ f, ta.toNat - i = f + 1 := ⟨ta.toNat - i - 1, by omega⟩
    unfold alikeI at hK
    simp only [Int.toNat_natCast] at hK
    rw [hf, alikeS] at hK
    rw [wrap_succ hia hla]
    refine ⟨⟨by omega, by omega, by omega, htb, hlb, by omega⟩, ⟨fun h2 => ?_, fun h2 => ?_⟩⟩
    · unfold hasJ at h2
      simp only [Int.toNat_natCast] at h2
      obtain ⟨j, hj⟩ := Option.isSome_iff_exists.1 h2
      have e2 : getJ a b i tb fr = j := by unfold getJ; simp only [Int.toNat_natCast]; rw [hj]; rfl
      rw [hj] at hK
      rw [e2]
      refine hR (i + 1, j + 1, out ++ [⟨i, j, false⟩]) ⟨hia, by simp only [List.length_append, List.length_cons, List.length_nil]; omega, ?_⟩ (by dsimp only; omega)
      dsimp only at hK ⊢
      unfold alikeI
      simp only [Int.toNat_natCast]
      rw [show ta.toNat - (i + 1) = f by omega, List.append_assoc]
      exact hK
    · unfold hasJ at h2
      simp only [Int.toNat_natCast] at h2
      have hj : findJ (eT a b i) (tb.toNat - fr) fr = none := by simpa using h2
      rw [hj] at hK
      refine hR (i + 1, fr, out) ⟨hia, by dsimp only; omega, ?_⟩ (by dsimp only; omega)
      dsimp only at hK ⊢
      unfold alikeI
      simp only [Int.toNat_natCast]
      rw [show ta.toNat - (i + 1) = f by omega]
      exact hK
  · have h1 : ¬ (i : Int) < ta := of_decide_eq_false h1
    unfold alikeI at hK
    simp only [Int.toNat_natCast] at hK
    rw [show ta.toNat - i = 0 by omega, alikeS, List.append_nil] at hK
    exact hK
theorem rowOf_str {x : AV} {a : List ByteArray} (h : rowOf .str x = some a) : AVle x (.row .str a) := rowOf_le h
theorem alike_holds : Holds 102 conAlike := by
  intro args hp ans hc
  unfold conAlike at hc
  split at hc
  case h_2 => cases hc
  rename_i ga gb ta tb x y
  simp only [Option.bind_eq_some_iff] at hc
  obtain ⟨a, hx, b, hy, hc⟩ := hc
  injection hc with hc
  subst hc
  refine Meets.weaken (args' := [.agg [.int .i64 ga, .int .i64 gb, .int .i64 ta, .int .i64 tb], .row .str a, .row .str b]) (.cons (.refl _) (.cons (rowOf_str hx) (.cons (rowOf_str hy) .nil))) ?_
  refine fun_meets2 tok0 [.own .pair] lsAlO lsAlI (by kernel_rfl) (by kernel_rfl) alO_sum alI_sum fun hpre => Eq.mpr (vcAlF a b ga gb ta tb _) ?_
  obtain ⟨h1, h2, h3, h4, h5, h6, h7⟩ := hpre _ rfl
  exact ⟨⟨h1, h2, h3, h4, h5, by omega, h7, by omega⟩, qfin rfl rfl rfl rfl⟩
theorem rd_pair {a : List Pr} {i : Nat} (h : i < a.length) : rd .pair a (i : Int) = a[i] := rd_get (t := .pair) h
theorem ar24 {o l x mx : Nat} {g p : Int} (z1 : (o : Int) ≤ g) (z2 : (l : Int) ≤ p - g) (z3 : p ≤ x) (z4 : (x + 1) * 24 ≤ mx) : (o + l + 1) * 24 ≤ mx := by
  have h : o + l + 1 ≤ x + 1 := by omega
  exact Nat.le_trans (Nat.mul_le_mul_right _ h) z4
theorem le24 {x y c mx : Nat} (h : y * 24 ≤ mx) (hx : x ≤ y) (hc : c ≤ 24) : x * c ≤ mx := Nat.le_trans (Nat.mul_le_mul hx hc) h
theorem le1 {x y mx : Nat} (h : y * 24 ≤ mx) (hx : x ≤ y) : x ≤ mx := Nat.le_trans (Nat.le_trans hx (Nat.le_mul_of_pos_right _ (by decide))) h
theorem lists_sum : SumOK cxLists (LL Try.f74 [lsLists]) Try.f74.ntmps (loopAt Try.f74 0).1 (loopAt Try.f74 0).2 lsLists := by
  intro vs bs K hs
  unfold lsLists at hs
  simp only at hs
  split at hs
  case h_2 => exact hs.elim
  rename_i x y ps m i out ga gb ta tb
  obtain ⟨⟨rfl, rfl, h0, rfl, rfl, hr, hx, hy⟩, h⟩ := hs
  have : out = [] := List.eq_nil_of_length_eq_zero h0
  subst this
  rcases (show ∃ w : List ByteArray, w = x from ⟨_, rfl⟩) with ⟨x, rfl⟩
  rcases (show ∃ w : List ByteArray, w = y from ⟨_, rfl⟩) with ⟨y, rfl⟩
  rcases (show ∃ w : List Pr, w = ps from ⟨_, rfl⟩) with ⟨ps, rfl⟩
  refine sum_rec (σ := Nat × Int × Int × Int × Int × List Pr) (fun s => [.row .str x, .row .str y, .own 0 0, .ptr 1 0, .row .pair ps, .int .i64 ps.length, .int .i64 s.1]) (fun s => [.rowb 0 .pair s.2.2.2.2.2, .box [.int .i64 s.2.1, .int .i64 s.2.2.1, .int .i64 s.2.2.2.1, .int .i64 s.2.2.2.2.1]])
    (fun s => s.1 ≤ ps.length ∧ 0 ≤ s.2.1 ∧ 0 ≤ s.2.2.1 ∧ (s.2.2.2.2.2.length : Int) ≤ s.2.1 ∧ RiseI x.length y.length s.2.1 s.2.2.1 (ps.drop s.1) ∧ ps.length ≤ maxSl ∧ K (.exit 0) [.own 0 0] [.rowb 0 .pair (s.2.2.2.2.2 ++ gapsI x y (ps.drop s.1) s.2.1 s.2.2.1)])
    (fun s => ps.length - s.1) ?_ (0, 0, 0, ta, tb, []) ⟨Nat.zero_le _, Int.le_refl _, Int.le_refl _, Int.le_refl _, hr, ?_, h⟩
  · rintro ⟨i, ga, gb, ta, tb, out⟩ ⟨hi, ha, hb, ho, hr, hl, hK⟩ R hR
    dsimp only at hi ha hb ho hr hl hK hR ⊢
    refine Eq.mpr (vcListsB x y out ps ga gb ta tb ps.length i _) ⟨fun h1 => ?_, fun h1 => ?_⟩
    · have h1 : (i : Int) < (ps.length : Int) := of_decide_eq_true h1
      have hip : i < ps.length := by omega
      rw [List.drop_eq_getElem_cons hip] at hr hK
      obtain ⟨r1, r2, r3, r4, r5⟩ := hr
      rw [gapsI] at hK
      rw [rd_pair hip, wrap_succ hip hl]
      have hal : ((alikeI x y ps[i].a ps[i].b ga gb).length : Int) ≤ ps[i].a - ga := by
        have := alikeS_len (lab := eT x y) (toB := ps[i].b.toNat) (ps[i].a.toNat - ga.toNat) ga.toNat gb.toNat
        unfold alikeI; omega
      have w1 : IntKind.i64.wrap (ps[i].a + 1) = ps[i].a + 1 := by unfold maxSl at hx; rw [wrap_id'] <;> omega
      have w2 : IntKind.i64.wrap (ps[i].b + 1) = ps[i].b + 1 := by unfold maxSl at hy; rw [wrap_id'] <;> omega
      rw [w1, w2]
      generalize alikeI x y ps[i].a ps[i].b ga gb = al at hal hK ⊢
      have q1 : (0 : Int) ≤ (i : Int) ∧ (i : Int) < (ps.length : Int) := ⟨by omega, h1⟩
      refine Rq.mk q1 ?_
      have q3' := ar24 ho hal r3 hx
      have q2 : (out.length + al.length) * 24 ≤ maxSl := Nat.le_trans (Nat.mul_le_mul_right _ (Nat.le_succ _)) q3'
      have q3 : ((out ++ al).length + 1) * 24 ≤ maxSl := by rw [List.length_append]; exact q3'
      refine Rq.mk ⟨ha, Int.le_trans r1 r3, r3, hb, r4, Nat.le_trans (Nat.mul_le_mul_right _ (Nat.le_succ _)) hx, Nat.le_of_succ_le hy⟩ ?_
      refine Rq.mk q2 ?_
      refine Rq.mk q3 ?_
      refine hR (i + 1, ps[i].a + 1, ps[i].b + 1, ps[i].a, ps[i].b, out ++ al ++ [ps[i]]) ⟨hip, by dsimp only; omega, by dsimp only; omega, by simp only [List.length_append, List.length_cons, List.length_nil]; omega, r5, hl, ?_⟩ (by dsimp only; omega)
      dsimp only
      rw [List.append_assoc, List.append_assoc]
      exact hK
    · have h1 : ¬ (i : Int) < (ps.length : Int) := of_decide_eq_false h1
      rw [List.drop_of_length_le (by omega), gapsI, List.append_nil] at hK
      exact hK
  · have hl := riseI_len hr (by omega)
    unfold maxSl at hx ⊢; omega
theorem tokLists : TOK cxLists := AllH.tok (.cons line_holds (by kernel_rfl) (.cons (or_holds textsK_holds textsL_holds) (by kernel_rfl) (.cons alike_holds (by kernel_rfl) .nil)))
theorem lists_holds : Holds 74 conLists := conP_holds fun a b => by
  rcases (show ∃ w : List Nd, w = a from ⟨_, rfl⟩) with ⟨a, rfl⟩
  rcases (show ∃ w : List Nd, w = b from ⟨_, rfl⟩) with ⟨b, rfl⟩
  refine fun_meets1 tokLists [.own .pair] lsLists (by kernel_rfl) (by kernel_rfl) lists_sum fun hpre => Eq.mpr (vcListsF a b _) ?_
  obtain ⟨h1, h2, h3⟩ := hpre _ rfl
  have pl : ∀ n, PKey n → PLab n := fun n h => ⟨h.1, by
    have := h.2
    rw [keyS_eq] at this
    have e := txt_size n.name
    unfold labS
    simp only [ByteArray.size_append] at this ⊢; omega⟩
  have hw := lineT_whole a b
  have hr := whole_rise a b
  have hlen := line_len (g := eN a b) hr (Nat.zero_le _)
  rw [hw]
  simp only [List.length_map]
  have hg : gapsI (a.map labS) (b.map labS) (wholeS a b ++ [⟨a.length, b.length, true⟩]) 0 0 = pairsS a b ++ [⟨a.length, b.length, true⟩] := by
    have := gapsI_eq (x := a.map labS) (y := b.map labS) (i := 0) (j := 0) hr
    rw [← listsT_pairs]
    unfold listsT gapsT
    rw [hw]
    exact this
  rw [hg]
  have hpl : (pairsS a b).length ≤ a.length := by have := riseL_len (pairs_rise a b) (Nat.zero_le _); omega
  have hri := rise_I hr (Nat.zero_le _) (Nat.zero_le _)
  generalize wholeS a b = W at *
  generalize pairsS a b = P at *
  have hl1 : (P ++ [(⟨a.length, b.length, true⟩ : Pr)]).length = P.length + 1 := by simp
  have hw1 : IntKind.i64.wrap (((P ++ [(⟨a.length, b.length, true⟩ : Pr)]).length : Int) - 1) = (P.length : Int) := by
    unfold maxSl at h1; rw [hl1, wrap_id'] <;> omega
  rw [hw1, Int.toNat_natCast]
  have ha : a.length + 1 ≤ a.length + b.length + 2 := by omega
  have hb : b.length + 1 ≤ a.length + b.length + 2 := by omega
  have hab : a.length + b.length ≤ a.length + b.length + 2 := by omega
  have hW : W.length + 1 ≤ a.length + b.length + 2 := by omega
  have m1 := le24 (c := 16) h1 (Nat.le_of_succ_le ha) (by decide)
  have m2 := le24 (c := 16) h1 (Nat.le_of_succ_le hb) (by decide)
  have m3 := le24 (c := 24) h1 ha (by decide)
  have m4 := le24 (c := 8) h1 hb (by decide)
  have m5 := le24 (c := 24) h1 hab (by decide)
  have m6 := le24 (c := 24) h1 hW (by decide)
  have m7 := le1 h1 hb
  clear h1 hab hW
  have g1 : (0 : Int) ≤ (P.length : Int) := by omega
  have g2 : ((P.length : Nat) : Int) ≤ (((P ++ [(⟨a.length, b.length, true⟩ : Pr)]).length : Nat) : Int) := by rw [hl1]; omega
  refine ⟨⟨m1, h2⟩, ⟨⟨m2, h3⟩, ⟨⟨m3, m4, m5⟩, ⟨⟨m1, fun n hn => pl n (h2 n hn)⟩, ⟨⟨m2, fun n hn => pl n (h3 n hn)⟩, ⟨m6, ⟨fun _ => ⟨fun _ => ⟨fun _ => ⟨⟨trivial, trivial, trivial, trivial, trivial, hri, m3, m7⟩, ⟨⟨g1, g2⟩, ⟨fun _ => qfin rfl rfl rfl ?_⟩⟩⟩⟩⟩⟩⟩⟩⟩⟩⟩⟩
  show [Blk.rowb 0 .pair _] = [Blk.rowb 0 .pair P]
  rw [List.take_left' rfl]
end Go.Proofs.Ytmkjjopflncedaa.AX
end
section
namespace Go.Proofs.Ytmkjjopflncedaa.AXP
open Go Go.Proofs.Ytmkjjopflncedaa.AX
/-- The pair of a place; -1: there is none. -/
def atP : List Pr → Int → Pr
  | [], i => ⟨i, -1, false⟩
  | p :: l, i => if (p.a == i) = true then p else atP l i
/-- Up to where the next one may be. -/
def toP : List Pr → Int → Int → Int
  | [], _, to => to
  | q :: l, i, to => toP l i (if q.a > i ∧ q.b < to then q.b else to)
def listsR (lab : Nat → Nat → Bool) (lb : Nat) (whole : List Pr) : Nat → Nat → Nat → List Pr
  | 0, _, _ => []
  | f + 1, i, fr => if (atP whole i).b ≥ 0 then atP whole i :: listsR lab lb whole f (i + 1) ((atP whole i).b + 1).toNat
    else match findJ (lab i) ((toP whole i lb).toNat - fr) fr with
      | some j => ⟨i, j, false⟩ :: listsR lab lb whole f (i + 1) (j + 1)
      | none => listsR lab lb whole f (i + 1) fr
theorem listsR_succ (lab : Nat → Nat → Bool) (lb : Nat) (whole : List Pr) (f i fr : Nat) : listsR lab lb whole (f + 1) i fr = if (atP whole i).b ≥ 0 then atP whole i :: listsR lab lb whole f (i + 1) ((atP whole i).b + 1).toNat
    else match findJ (lab i) ((toP whole i lb).toNat - fr) fr with
      | some j => ⟨i, j, false⟩ :: listsR lab lb whole f (i + 1) (j + 1)
      | none => listsR lab lb whole f (i + 1) fr := rfl
theorem atP_none : ∀ {l : List Pr} {i : Int}, (∀ p ∈ l, p.a ≠ i) → atP l i = ⟨i, -1, false⟩
  | [], _, _ => rfl
  | p :: l, i, h => by
    rw [atP, if_neg (by simpa using h p (.head _))]
    exact atP_none fun q hq => h q (.tail _ hq)
theorem atP_app : ∀ {l m : List Pr} {i : Int}, (∀ p ∈ l, p.a ≠ i) → atP (l ++ m) i = atP m i
  | [], _, _, _ => rfl
  | p :: l, m, i, h => by
    rw [List.cons_append, atP, if_neg (by simpa using h p (.head _))]
    exact atP_app fun q hq => h q (.tail _ hq)
theorem toP_app : ∀ {l m : List Pr} {i to : Int}, (∀ p ∈ l, p.a < i) → toP (l ++ m) i to = toP m i to
  | [], _, _, _, _ => rfl
  | p :: l, m, i, to, h => by
    have := h p (.head _)
    rw [List.cons_append, toP, if_neg (by omega)]
    exact toP_app fun q hq => h q (.tail _ hq)
theorem toP_ge : ∀ {l : List Pr} {i to : Int}, (∀ p ∈ l, to ≤ p.b) → toP l i to = to
  | [], _, _, _ => rfl
  | p :: l, i, to, h => by
    have := h p (.head _)
    rw [toP, if_neg (by omega)]
    exact toP_ge fun q hq => h q (.tail _ hq)
theorem Rise.mem {e : Nat → Nat → Bool} {la lb : Nat} : ∀ {ps : List Pr} {i j : Nat}, Rise e la lb i j ps → ∀ p ∈ ps, (i : Int) ≤ p.a ∧ (j : Int) ≤ p.b ∧ p.b < (lb : Int)
  | [], _, _, _, p, hp => by cases hp
  | q :: ps, i, j, h, p, hp => by
    obtain ⟨x, y, rfl, h1, h2, h3, h4, _, h6⟩ := h
    cases hp with
    | head => exact ⟨by show (i : Int) ≤ x; omega, by show (j : Int) ≤ y; omega, by show (y : Int) < lb; omega⟩
    | tail _ hp =>
      have := Rise.mem h6 p hp
      exact ⟨by omega, by omega, this.2.2⟩
theorem listsR_gaps {e lab : Nat → Nat → Bool} {la lb : Nat} {whole : List Pr} : ∀ (f : Nat) {ga gb : Nat} {pre ps : List Pr}, f = la - ga → whole = pre ++ ps → (∀ p ∈ pre, p.a < (ga : Int)) → Rise e la lb ga gb ps → gb ≤ lb →
    listsR lab lb whole f ga gb = gapsS lab la lb ps ga gb
  | 0, ga, gb, pre, ps, hf, hw, hp, hr, hb => by
    cases ps with
    | nil => rw [gapsS, ← hf]; rfl
    | cons p ps =>
      obtain ⟨x, y, rfl, h1, h2, h3, _⟩ := hr
      omega
  | f + 1, ga, gb, pre, ps, hf, hw, hp, hr, hb => by
    have hne : ∀ p ∈ pre, p.a ≠ (ga : Int) := fun p h => by have := hp p h; omega
    have hp' : ∀ p ∈ pre, p.a < ((ga + 1 : Nat) : Int) := fun p h => by have := hp p h; omega
    cases ps with
    | nil =>
      rw [listsR_succ, hw, atP_app hne, toP_app hp, if_neg (by show ¬ (-1 : Int) ≥ 0; decide), gapsS, ← hf, alikeS]
      show (match findJ (lab ga) ((lb : Int).toNat - gb) gb with
        | some j => _
        | none => _) = _
      rw [Int.toNat_natCast]
      cases hj : findJ (lab ga) (lb - gb) gb with
      | none =>
        show listsR lab lb (pre ++ []) f (ga + 1) gb = alikeS lab lb f (ga + 1) gb
        rw [← hw, listsR_gaps (e := e) (la := la) (ga := ga + 1) (ps := []) (pre := pre) f (by omega) hw hp' trivial hb, gapsS, show la - (ga + 1) = f by omega]
      | some j =>
        obtain ⟨q1, q2, q3⟩ := findJ_some hj
        show _ :: listsR lab lb (pre ++ []) f (ga + 1) (j + 1) = _ :: alikeS lab lb f (ga + 1) (j + 1)
        rw [← hw, listsR_gaps (e := e) (la := la) (ga := ga + 1) (ps := []) (pre := pre) f (by omega) hw hp' trivial (by omega), gapsS, show la - (ga + 1) = f by omega]
    | cons p ps =>
      obtain ⟨x, y, rfl, h1, h2, h3, h4, h5, h6⟩ := hr
      by_cases hx : ga = x
      · subst hx
        have ea : atP whole (ga : Int) = ⟨ga, y, true⟩ := by rw [hw, atP_app hne, atP, if_pos (by simp)]
        rw [listsR_succ, ea, if_pos (by show (y : Int) ≥ 0; omega), gapsS]
        simp only [Int.toNat_natCast, Nat.sub_self, alikeS, List.nil_append]
        rw [show ((y : Int) + 1).toNat = y + 1 by omega]
        rw [listsR_gaps (e := e) (la := la) (ga := ga + 1) (pre := pre ++ [⟨ga, y, true⟩]) f (by omega) (by rw [hw, List.append_assoc]; rfl) ?_ h6 (by omega)]
        intro q hq
        rcases List.mem_append.1 hq with hq | hq
        · exact hp' q hq
        · cases hq with
          | head => show (ga : Int) < _; omega
          | tail _ hq => cases hq
      · have hall : ∀ q ∈ (⟨x, y, true⟩ :: ps : List Pr), q.a ≠ (ga : Int) ∧ (y : Int) ≤ q.b := fun q hq => by
          cases hq with
          | head => exact ⟨by show (x : Int) ≠ ga; omega, Int.le_refl _⟩
          | tail _ hq =>
            have := h6.mem q hq
            exact ⟨by omega, by omega⟩
        have ea : atP whole (ga : Int) = ⟨ga, -1, false⟩ := by rw [hw, atP_app hne, atP_none fun q hq => (hall q hq).1]
        have et : toP whole (ga : Int) lb = y := by
          rw [hw, toP_app hp, toP, if_pos ⟨by show (x : Int) > ga; omega, by show (y : Int) < lb; omega⟩]
          exact toP_ge fun q hq => (hall q (.tail _ hq)).2
        rw [listsR_succ, ea, et, if_neg (by show ¬ (-1 : Int) ≥ 0; decide), gapsS]
        simp only [Int.toNat_natCast]
        obtain ⟨g, hg⟩ : ∃ g, x - ga = g + 1 := ⟨x - ga - 1, by omega⟩
        rw [hg, alikeS]
        cases hj : findJ (lab ga) (y - gb) gb with
        | none =>
          show listsR lab lb whole f (ga + 1) gb = alikeS lab y g (ga + 1) gb ++ _
          rw [listsR_gaps (e := e) (la := la) (ga := ga + 1) (ps := ⟨x, y, true⟩ :: ps) (pre := pre) f (by omega) hw hp' ⟨x, y, rfl, by omega, h2, h3, h4, h5, h6⟩ hb, gapsS]
          simp only [Int.toNat_natCast]
          rw [show x - (ga + 1) = g by omega]
        | some j =>
          obtain ⟨q1, q2, q3⟩ := findJ_some hj
          show _ :: listsR lab lb whole f (ga + 1) (j + 1) = _ :: (alikeS lab y g (ga + 1) (j + 1) ++ _)
          rw [listsR_gaps (e := e) (la := la) (ga := ga + 1) (ps := ⟨x, y, true⟩ :: ps) (pre := pre) f (by omega) hw hp' ⟨x, y, rfl, by omega, by omega, h3, h4, h5, h6⟩ (by omega), gapsS]
          simp only [Int.toNat_natCast]
          rw [show x - (ga + 1) = g by omega]
end Go.Proofs.Ytmkjjopflncedaa.AXP
end
section
namespace Go.Proofs.Ytmkjjopflncedaa.AXP
open Go Go.Proofs.Ytmkjjopflncedaa.AX
/-- The first place of a node. -/
def fstI : List Nd → Nd → Nat
  | [], _ => 0
  | x :: l, n => if eqNd x n = true then 0 else 1 + fstI l n
def clsK (k : Int) : ByteArray := strOf [IntKind.u8.wrap (IntKind.i64.wrap (k.tdiv 256)), IntKind.u8.wrap (k.tmod 256)]
def clsT (all : List Nd) (n : Nd) : ByteArray := clsK (fstI all n)
def hasP (l : List Pr) (i : Int) : Bool := l.any fun p => p.a == i
end Go.Proofs.Ytmkjjopflncedaa.AXP
namespace Go.Proofs.Ytmkjjopflncedaa.AX
open Go AXP
def lsBs1 : LS where
  keep := [(0, .as), (1, .as), (5, .as), (16, .as), (17, .as)]
  left := [(0, .as), (1, .as), (5, .as)]
  sum := fun vs bs K => match vs, bs with
    | [.row .str a, .row .str b, .ptr 0 0, .int .i64 m, .int .i64 i], [.box [.nil]] => Rq (m = b.length ∧ i = 0 ∧ (b.length + 1) * 8 ≤ maxSl) (Br (b.length == 0) (K (.exit 0) [.row .str a, .row .str b, .ptr 0 0] [.box [.nil]]) (K (.exit 0) [.row .str a, .row .str b, .ptr 0 0] [.box [.own 1 0], .rowb 0 .int (List.replicate b.length 0)]))
    | _, _ => False
def lsBs2 : LS where
  keep := [(0, .as), (1, .as), (6, .own .rest), (7, .as)]
  left := [(6, .own .rest)]
  sum := fun vs bs K => match vs, bs with
    | [.row .str a, .row .str b, .own 0 0, .int .i64 i], [.rowb 0 .rest out] => Rq (i + 1 = a.length ∧ out = [List.replicate (b.length + 1) 0] ∧ (a.length + 1) * 24 ≤ maxSl ∧ (b.length + 1) * 8 ≤ maxSl) (K (.exit 2) [.own 0 0] [.rowb 0 .rest (cntR eqS a b)])
    | _, _ => False
def lsBs3 : LS where
  keep := [(0, .as), (1, .as), (6, .own .rest), (7, .as), (8, .as), (9, .own .int), (10, .as)]
  left := [(0, .as), (1, .as), (6, .own .rest), (7, .as), (9, .own .int)]
  sum := fun vs bs K => match vs, bs with
    | [.row .str a, .row .str b, .own 0 0, .int .i64 i, .row .int ahead, .own 1 0, .int .i64 j], [.rowb 0 .rest out, .rowb 0 .int row] =>
      Rq (0 ≤ i ∧ i < a.length ∧ j + 1 = b.length ∧ row = [0] ∧ ahead.length = b.length + 1 ∧ (∀ v ∈ ahead, 0 ≤ v ∧ v < maxSl) ∧ (b.length + 1) * 8 ≤ maxSl)
        (K (.exit 4) [.row .str a, .row .str b, .own 0 0, .int .i64 i, .own 1 0] [.rowb 0 .rest out, .rowb 0 .int (rowR eqS (rd .str a i) b ahead)])
    | _, _ => False
def conBest : Con := conP [.row .str, .row .str] fun (a b : List ByteArray) => { pre := some ((a.length + 1) * 24 ≤ maxSl ∧ (b.length + 1) * 8 ≤ maxSl), res := .row .rest (cntR eqS a b) }
noncomputable def cxLineR : Cx := cxT (tabLook [(114, conBest)])
def lsLineR : LS where
  keep := [(0, .as), (1, .as), (5, .as), (6, .own .rpair), (7, .as), (8, .as)]
  left := [(6, .own .rpair)]
  sum := fun vs bs K => match vs, bs with
    | [.row .str a, .row .str b, .row .rest n, .own 0 0, .int .i64 i, .int .i64 j], [.rowb 0 .rpair out] => Rq (n = cntP eqS a b ∧ i = 0 ∧ j = 0 ∧ out.length = 0 ∧ a.length ≤ maxSl ∧ b.length ≤ maxSl ∧ (a.length + b.length) * 24 ≤ maxSl) (K (.exit 0) [.own 0 0] [.rowb 0 .rpair (lineT a b)])
    | _, _ => False
def conLineR : Con := conP [.row .str, .row .str] fun (a b : List ByteArray) => { pre := some ((a.length + 1) * 24 ≤ maxSl ∧ (b.length + 1) * 8 ≤ maxSl ∧ (a.length + b.length) * 24 ≤ maxSl), res := .own 0 0, extra := [.rowb 0 .rpair (lineT a b)] }
def conAlk20 : Con := conP [.agg .node, .agg .node] fun (x y : Nd) => { res := .bool (alN x y) }
noncomputable def cxCls : Cx := cxT (tabLook [(38, conNode')])
def lsCls1 : LS where
  keep := [(1, .as), (5, .own .str), (9, .as), (10, .as), (11, .as)]
  left := [(5, .own .str)]
  sum := fun vs bs K => match vs, bs with
    | [.row .node all, .own 0 0, .row .node a, .int .i64 m, .int .i64 i], [.rowb 0 .str out] => Rq (m = a.length ∧ i = 0 ∧ out.length = 0 ∧ all.length ≤ maxSl ∧ a.length * 16 ≤ maxSl) (K (.exit 0) [.own 0 0] [.rowb 0 .str (a.map (clsT all))])
    | _, _ => False
def lsCls2 : LS where
  keep := [(1, .as), (5, .own .str), (7, .as), (8, .as), (9, .as), (10, .as), (11, .as)]
  left := [(1, .as), (5, .own .str), (8, .as), (9, .as), (10, .as), (11, .as)]
  sum := fun vs bs K => match vs, bs with
    | [.row .node all, .own 0 0, .ptr 1 0, .int .i64 k, .row .node a, .int .i64 m, .int .i64 i], [.rowb 0 .str out, .box [.int .i64 c0, .int .i64 c1, .str c2, .row .attr c3, .str c4, .row .node c5]] =>
      Rq (k = 0 ∧ all.length ≤ maxSl) (K (.exit 2) [.row .node all, .own 0 0, .int .i64 (fstI all ⟨c0, c1, c2, c3, c4, c5⟩), .row .node a, .int .i64 m, .int .i64 i] [.rowb 0 .str out])
    | _, _ => False
def conCls : Con := conP [.row .node, .row .node] fun (a all : List Nd) => { pre := some (all.length ≤ maxSl ∧ a.length * 16 ≤ maxSl), res := .row .str (a.map (clsT all)) }
def coldWh (r : Nat) : List Nat := match Nat.beq r 3 with | true => [5] | false => []
noncomputable def cxWh : Cx := cxC (tabLook [(105, conCls), (104, conLineR)]) coldWh
def conWh : Con := conP [.row .node, .row .node] fun (a b : List Nd) => { pre := some (a.length + b.length ≤ 65536), res := .row .rpair (wholeS a b) }
def lsAt20 : LS where
  keep := [(1, .as), (4, .as), (7, .as), (8, .as), (9, .as)]
  left := [(1, .as), (4, .as)]
  sum := fun vs bs K => match vs, bs with
    | [.int .i64 i, .ptr 0 0, .row .rpair l, .int .i64 m, .int .i64 k], [.box [.int .i64 0, .int .i64 0, .bool false]] => Rq (m = l.length ∧ k = 0 ∧ l.length ≤ maxSl)
      (Br (hasP l i) (K .ret [.int .i64 i, .ptr 0 0] [.box (pairL (atP l i))]) (K (.exit 0) [.int .i64 i, .ptr 0 0] [.box [.int .i64 0, .int .i64 0, .bool false]]))
    | _, _ => False
def conAt20 : Con := conP [.row .rpair, .int] fun (l : List Pr) (i : Int) => { res := .agg (pairL (atP l i)) }
end Go.Proofs.Ytmkjjopflncedaa.AX
end
section
namespace Go.Proofs.Ytmkjjopflncedaa.AX
open Go AXP
set_option maxRecDepth 100000
theorem vcBs0 (a b : List ByteArray) (m i : Int) (K : Ex → List AV → List Blk → Prop) : (bodyA cx0 (LL Try.f114 [lsBs1, lsBs2, lsBs3]) Try.f114.ntmps (loopAt Try.f114 0).1 (loopAt Try.f114 0).2 lsBs1.keep lsBs1.left K [.row .str a, .row .str b, .ptr 0 0, .int .i64 m, .int .i64 i] [.box [.nil]]) = (
Br (decide (i < m))
  (Rq ([(0 : Int)].length * (8 : Nat) ≤ maxSl)
    (K Ex.norm
      [AV.row Ty.str a, AV.row Ty.str b, AV.ptr (0 : Nat) (0 : Nat), AV.int IntKind.i64 m,
        AV.int IntKind.i64 (IntKind.i64.wrap (i + (1 : Int)))]
      [Blk.box [AV.own ((0 : Nat) + (1 : Nat)) (0 : Nat)], Blk.rowb (0 : Nat) Ty.int [(0 : Int)]]))
  (K (Ex.exit (0 : Nat)) [AV.row Ty.str a, AV.row Ty.str b, AV.ptr (0 : Nat) (0 : Nat)] [Blk.box [AV.nil]])) := by kernel_rfl
theorem vcBs1 (a b : List ByteArray) (m i : Int) (zs : List Int) (K : Ex → List AV → List Blk → Prop) : (bodyA cx0 (LL Try.f114 [lsBs1, lsBs2, lsBs3]) Try.f114.ntmps (loopAt Try.f114 0).1 (loopAt Try.f114 0).2 lsBs1.keep lsBs1.left K [.row .str a, .row .str b, .ptr 0 0, .int .i64 m, .int .i64 i] [.box [.own 1 0], .rowb 0 .int zs]) = (
Br (decide (i < m))
  (Rq ((zs.length + [(0 : Int)].length) * (8 : Nat) ≤ maxSl)
    (K Ex.norm
      [AV.row Ty.str a, AV.row Ty.str b, AV.ptr (0 : Nat) (0 : Nat), AV.int IntKind.i64 m,
        AV.int IntKind.i64 (IntKind.i64.wrap (i + (1 : Int)))]
      [Blk.box [AV.own ((0 : Nat) + (1 : Nat)) (0 : Nat)], Blk.rowb (0 : Nat) Ty.int (zs ++ [(0 : Int)])]))
  (K (Ex.exit (0 : Nat)) [AV.row Ty.str a, AV.row Ty.str b, AV.ptr (0 : Nat) (0 : Nat)]
    [Blk.box [AV.own ((0 : Nat) + (1 : Nat)) (0 : Nat)], Blk.rowb (0 : Nat) Ty.int zs])) := by kernel_rfl
theorem vcBs2 (a b : List ByteArray) (i : Int) (out : List (List Int)) (K : Ex → List AV → List Blk → Prop) : (bodyA cx0 (LL Try.f114 [lsBs1, lsBs2, lsBs3]) Try.f114.ntmps (loopAt Try.f114 1).1 (loopAt Try.f114 1).2 lsBs2.keep lsBs2.left K [.row .str a, .row .str b, .own 0 0, .int .i64 i] [.rowb 0 .rest out]) = (
Br (decide (i ≥ (0 : Int)))
  (Rq ((0 : Int) ≤ (0 : Int) ∧ (0 : Int) < (↑out.length : Int))
    (Gv (b.length ≤ maxSl)
      (Rq
        ((0 : Int) ≤ i ∧
          i < (↑a.length : Int) ∧
            IntKind.i64.wrap ((↑b.length : Int) - (1 : Int)) + (1 : Int) = (↑b.length : Int) ∧
              [(0 : Int)] = [(0 : den Ty.int)] ∧
                List.length (rd Ty.rest out (0 : Int)) = b.length + (1 : Nat) ∧
                  (∀ (v : den Ty.int),
                      v ∈ rd Ty.rest out (0 : Int) → (0 : den Ty.int) ≤ v ∧ v < (↑maxSl : den Ty.int)) ∧
                    (b.length + (1 : Nat)) * (8 : Nat) ≤ maxSl)
        (Rq (([rowR eqS (rd Ty.str a i) b (rd Ty.rest out (0 : Int))].length + out.length) * (24 : Nat) ≤ maxSl)
          (K Ex.norm
            [AV.row Ty.str a, AV.row Ty.str b, AV.own (0 : Nat) (0 : Nat),
              AV.int IntKind.i64 (IntKind.i64.wrap (i - (1 : Int)))]
            [Blk.rowb (0 : Nat) Ty.rest ([rowR eqS (rd Ty.str a i) b (rd Ty.rest out (0 : Int))] ++ out)])))))
  (K (Ex.exit (2 : Nat)) [AV.own (0 : Nat) (0 : Nat)] [Blk.rowb (0 : Nat) Ty.rest out])) := by kernel_rfl
theorem vcBs3 (a b : List ByteArray) (i j : Int) (out : List (List Int)) (ahead row : List Int) (K : Ex → List AV → List Blk → Prop) : (bodyA cx0 (LL Try.f114 [lsBs1, lsBs2, lsBs3]) Try.f114.ntmps (loopAt Try.f114 2).1 (loopAt Try.f114 2).2 lsBs3.keep lsBs3.left K [.row .str a, .row .str b, .own 0 0, .int .i64 i, .row .int ahead, .own 1 0, .int .i64 j] [.rowb 0 .rest out, .rowb 0 .int row]) = (
Br (decide (j ≥ (0 : Int)))
  (Rq ((0 : Int) ≤ (0 : Int) ∧ (0 : Int) < (↑row.length : Int))
    (Rq ((0 : Int) ≤ j ∧ j < (↑ahead.length : Int))
      (Br (decide (rd Ty.int ahead j > rd Ty.int row (0 : Int)))
        (Rq ((0 : Int) ≤ j ∧ j < (↑ahead.length : Int))
          (Rq ((0 : Int) ≤ i ∧ i < (↑a.length : Int))
            (Rq ((0 : Int) ≤ j ∧ j < (↑b.length : Int))
              (Br (eqS (rd Ty.str a i) (rd Ty.str b j))
                (Rq
                  ((0 : Int) ≤ IntKind.i64.wrap (j + (1 : Int)) ∧
                    IntKind.i64.wrap (j + (1 : Int)) < (↑ahead.length : Int))
                  (Br
                    (decide
                      (IntKind.i64.wrap (rd Ty.int ahead (IntKind.i64.wrap (j + (1 : Int))) + (1 : Int)) >
                        rd Ty.int ahead j))
                    (Rq
                      ((0 : Int) ≤ IntKind.i64.wrap (j + (1 : Int)) ∧
                        IntKind.i64.wrap (j + (1 : Int)) < (↑ahead.length : Int))
                      (Rq
                        (([IntKind.i64.wrap (rd Ty.int ahead (IntKind.i64.wrap (j + (1 : Int))) + (1 : Int))].length +
                              row.length) *
                            (8 : Nat) ≤
                          maxSl)
                        (K Ex.norm
                          [AV.row Ty.str a, AV.row Ty.str b, AV.own (0 : Nat) (0 : Nat), AV.int IntKind.i64 i,
                            AV.row Ty.int ahead, AV.own ((0 : Nat) + (1 : Nat)) (0 : Nat),
                            AV.int IntKind.i64 (IntKind.i64.wrap (j - (1 : Int)))]
                          [Blk.rowb (0 : Nat) Ty.rest out,
                            Blk.rowb (0 : Nat) Ty.int
                              ([IntKind.i64.wrap (rd Ty.int ahead (IntKind.i64.wrap (j + (1 : Int))) + (1 : Int))] ++
                                row)])))
                    (Rq (([rd Ty.int ahead j].length + row.length) * (8 : Nat) ≤ maxSl)
                      (K Ex.norm
                        [AV.row Ty.str a, AV.row Ty.str b, AV.own (0 : Nat) (0 : Nat), AV.int IntKind.i64 i,
                          AV.row Ty.int ahead, AV.own ((0 : Nat) + (1 : Nat)) (0 : Nat),
                          AV.int IntKind.i64 (IntKind.i64.wrap (j - (1 : Int)))]
                        [Blk.rowb (0 : Nat) Ty.rest out, Blk.rowb (0 : Nat) Ty.int ([rd Ty.int ahead j] ++ row)]))))
                (Rq (([rd Ty.int ahead j].length + row.length) * (8 : Nat) ≤ maxSl)
                  (K Ex.norm
                    [AV.row Ty.str a, AV.row Ty.str b, AV.own (0 : Nat) (0 : Nat), AV.int IntKind.i64 i,
                      AV.row Ty.int ahead, AV.own ((0 : Nat) + (1 : Nat)) (0 : Nat),
                      AV.int IntKind.i64 (IntKind.i64.wrap (j - (1 : Int)))]
                    [Blk.rowb (0 : Nat) Ty.rest out, Blk.rowb (0 : Nat) Ty.int ([rd Ty.int ahead j] ++ row)]))))))
        (Rq ((0 : Int) ≤ i ∧ i < (↑a.length : Int))
          (Rq ((0 : Int) ≤ j ∧ j < (↑b.length : Int))
            (Br (eqS (rd Ty.str a i) (rd Ty.str b j))
              (Rq
                ((0 : Int) ≤ IntKind.i64.wrap (j + (1 : Int)) ∧
                  IntKind.i64.wrap (j + (1 : Int)) < (↑ahead.length : Int))
                (Br
                  (decide
                    (IntKind.i64.wrap (rd Ty.int ahead (IntKind.i64.wrap (j + (1 : Int))) + (1 : Int)) >
                      rd Ty.int row (0 : Int)))
                  (Rq
                    ((0 : Int) ≤ IntKind.i64.wrap (j + (1 : Int)) ∧
                      IntKind.i64.wrap (j + (1 : Int)) < (↑ahead.length : Int))
                    (Rq
                      (([IntKind.i64.wrap (rd Ty.int ahead (IntKind.i64.wrap (j + (1 : Int))) + (1 : Int))].length +
                            row.length) *
                          (8 : Nat) ≤
                        maxSl)
                      (K Ex.norm
                        [AV.row Ty.str a, AV.row Ty.str b, AV.own (0 : Nat) (0 : Nat), AV.int IntKind.i64 i,
                          AV.row Ty.int ahead, AV.own ((0 : Nat) + (1 : Nat)) (0 : Nat),
                          AV.int IntKind.i64 (IntKind.i64.wrap (j - (1 : Int)))]
                        [Blk.rowb (0 : Nat) Ty.rest out,
                          Blk.rowb (0 : Nat) Ty.int
                            ([IntKind.i64.wrap (rd Ty.int ahead (IntKind.i64.wrap (j + (1 : Int))) + (1 : Int))] ++
                              row)])))
                  (Rq (([rd Ty.int row (0 : Int)].length + row.length) * (8 : Nat) ≤ maxSl)
                    (K Ex.norm
                      [AV.row Ty.str a, AV.row Ty.str b, AV.own (0 : Nat) (0 : Nat), AV.int IntKind.i64 i,
                        AV.row Ty.int ahead, AV.own ((0 : Nat) + (1 : Nat)) (0 : Nat),
                        AV.int IntKind.i64 (IntKind.i64.wrap (j - (1 : Int)))]
                      [Blk.rowb (0 : Nat) Ty.rest out, Blk.rowb (0 : Nat) Ty.int ([rd Ty.int row (0 : Int)] ++ row)]))))
              (Rq (([rd Ty.int row (0 : Int)].length + row.length) * (8 : Nat) ≤ maxSl)
                (K Ex.norm
                  [AV.row Ty.str a, AV.row Ty.str b, AV.own (0 : Nat) (0 : Nat), AV.int IntKind.i64 i,
                    AV.row Ty.int ahead, AV.own ((0 : Nat) + (1 : Nat)) (0 : Nat),
                    AV.int IntKind.i64 (IntKind.i64.wrap (j - (1 : Int)))]
                  [Blk.rowb (0 : Nat) Ty.rest out, Blk.rowb (0 : Nat) Ty.int ([rd Ty.int row (0 : Int)] ++ row)]))))))))
  (K (Ex.exit (4 : Nat))
    [AV.row Ty.str a, AV.row Ty.str b, AV.own (0 : Nat) (0 : Nat), AV.int IntKind.i64 i,
      AV.own ((0 : Nat) + (1 : Nat)) (0 : Nat)]
    [Blk.rowb (0 : Nat) Ty.rest out, Blk.rowb (0 : Nat) Ty.int row])) := by kernel_rfl
theorem vcBestF (a b : List ByteArray) (Q : List AV → List Blk → List Blk → Prop) : (funA cx0 (LL Try.f114 [lsBs1, lsBs2, lsBs3]) Try.f114 [.row .str a, .row .str b] [] [.row .rest] Q) = (
Gv (b.length ≤ maxSl)
  (Rq ((↑b.length : Int) = (↑b.length : Int) ∧ (0 : Int) = (0 : Int) ∧ (b.length + (1 : Nat)) * (8 : Nat) ≤ maxSl)
    (Br (b.length == (0 : Nat))
      (Rq ([(0 : Int)].length * (8 : Nat) ≤ maxSl)
        (Gv (a.length ≤ maxSl)
          (Rq
            (IntKind.i64.wrap ((↑a.length : Int) - (1 : Int)) + (1 : Int) = (↑a.length : Int) ∧
              [[(0 : Int)]] = [List.replicate (b.length + (1 : Nat)) (0 : Int)] ∧
                (a.length + (1 : Nat)) * (24 : Nat) ≤ maxSl ∧ (b.length + (1 : Nat)) * (8 : Nat) ≤ maxSl)
            (Q [AV.row Ty.rest (cntR eqS a b)] [] []))))
      (Rq (((List.replicate b.length (0 : den Ty.int)).length + [(0 : Int)].length) * (8 : Nat) ≤ maxSl)
        (Gv (a.length ≤ maxSl)
          (Rq
            (IntKind.i64.wrap ((↑a.length : Int) - (1 : Int)) + (1 : Int) = (↑a.length : Int) ∧
              [List.replicate b.length (0 : den Ty.int) ++ [(0 : Int)]] =
                  [List.replicate (b.length + (1 : Nat)) (0 : Int)] ∧
                (a.length + (1 : Nat)) * (24 : Nat) ≤ maxSl ∧ (b.length + (1 : Nat)) * (8 : Nat) ≤ maxSl)
            (Q [AV.row Ty.rest (cntR eqS a b)] [] []))))))) := by kernel_rfl
theorem vcLineRB (a b : List ByteArray) (n : List (List Int)) (out : List Pr) (i j : Int) (K : Ex → List AV → List Blk → Prop) : (bodyA cxLineR (LL Try.f104 [lsLineR]) Try.f104.ntmps (loopAt Try.f104 0).1 (loopAt Try.f104 0).2 lsLineR.keep lsLineR.left K [.row .str a, .row .str b, .row .rest n, .own 0 0, .int .i64 i, .int .i64 j] [.rowb 0 .rpair out]) = (
Br (decide (i < (↑a.length : Int)))
  (Gv (a.length ≤ maxSl)
    (Gv (b.length ≤ maxSl)
      (Br (decide (j < (↑b.length : Int)))
        (Rq ((0 : Int) ≤ i ∧ i < (↑a.length : Int))
          (Rq ((0 : Int) ≤ j ∧ j < (↑b.length : Int))
            (Br (eqS (rd Ty.str a i) (rd Ty.str b j))
              (Rq ((out.length + [Pr.mk i j true].length) * (24 : Nat) ≤ maxSl)
                (K Ex.norm
                  [AV.row Ty.str a, AV.row Ty.str b, AV.row Ty.rest n, AV.own (0 : Nat) (0 : Nat),
                    AV.int IntKind.i64 (IntKind.i64.wrap (i + (1 : Int))),
                    AV.int IntKind.i64 (IntKind.i64.wrap (j + (1 : Int)))]
                  [Blk.rowb (0 : Nat) Ty.rpair (out ++ [Pr.mk i j true])]))
              (Rq ((0 : Int) ≤ IntKind.i64.wrap (i + (1 : Int)) ∧ IntKind.i64.wrap (i + (1 : Int)) < (↑n.length : Int))
                (Rq ((0 : Int) ≤ j ∧ j < (↑(List.length (rd Ty.rest n (IntKind.i64.wrap (i + (1 : Int))))) : Int))
                  (Rq ((0 : Int) ≤ i ∧ i < (↑n.length : Int))
                    (Rq
                      ((0 : Int) ≤ IntKind.i64.wrap (j + (1 : Int)) ∧
                        IntKind.i64.wrap (j + (1 : Int)) < (↑(List.length (rd Ty.rest n i)) : Int))
                      (Br
                        (decide
                          (rd Ty.int (rd Ty.rest n (IntKind.i64.wrap (i + (1 : Int)))) j ≥
                            rd Ty.int (rd Ty.rest n i) (IntKind.i64.wrap (j + (1 : Int)))))
                        (K Ex.norm
                          [AV.row Ty.str a, AV.row Ty.str b, AV.row Ty.rest n, AV.own (0 : Nat) (0 : Nat),
                            AV.int IntKind.i64 (IntKind.i64.wrap (i + (1 : Int))), AV.int IntKind.i64 j]
                          [Blk.rowb (0 : Nat) Ty.rpair out])
                        (K Ex.norm
                          [AV.row Ty.str a, AV.row Ty.str b, AV.row Ty.rest n, AV.own (0 : Nat) (0 : Nat),
                            AV.int IntKind.i64 i, AV.int IntKind.i64 (IntKind.i64.wrap (j + (1 : Int)))]
                          [Blk.rowb (0 : Nat) Ty.rpair out])))))))))
        (K (Ex.exit (0 : Nat)) [AV.own (0 : Nat) (0 : Nat)] [Blk.rowb (0 : Nat) Ty.rpair out]))))
  (Gv (a.length ≤ maxSl) (K (Ex.exit (0 : Nat)) [AV.own (0 : Nat) (0 : Nat)] [Blk.rowb (0 : Nat) Ty.rpair out]))) := by kernel_rfl
theorem vcLineRF (a b : List ByteArray) (Q : List AV → List Blk → List Blk → Prop) : (funA cxLineR (LL Try.f104 [lsLineR]) Try.f104 [.row .str a, .row .str b] [] [.own .rpair] Q) = (
Rq ((a.length + (1 : Nat)) * (24 : Nat) ≤ maxSl ∧ (b.length + (1 : Nat)) * (8 : Nat) ≤ maxSl)
  (Rq
    (cntR eqS a b = cntP eqS a b ∧
      (0 : Int) = (0 : Int) ∧
        (0 : Int) = (0 : Int) ∧
          (0 : Nat) = (0 : Nat) ∧ a.length ≤ maxSl ∧ b.length ≤ maxSl ∧ (a.length + b.length) * (24 : Nat) ≤ maxSl)
    (Q [AV.own (0 : Nat) (0 : Nat)] [] [Blk.rowb (0 : Nat) Ty.rpair (lineT a b)]))) := by kernel_rfl
theorem vcAlk20F (x y : Nd) (Q : List AV → List Blk → List Blk → Prop) : (funA cx0 (LL Try.f79 []) Try.f79 [.agg (nodeL x), .agg (nodeL y)] [] [] Q) = (
Br (x.1 == y.1) (Br (x.2 == y.2) (Q [AV.bool (eqS x.3 y.3)] [] []) (Q [AV.bool false] [] [])) (Q [AV.bool false] [] [])) := by kernel_rfl
theorem vcCls1 (all a : List Nd) (m i : Int) (out : List ByteArray) (K : Ex → List AV → List Blk → Prop) : (bodyA cxCls (LL Try.f105 [lsCls1, lsCls2]) Try.f105.ntmps (loopAt Try.f105 0).1 (loopAt Try.f105 0).2 lsCls1.keep lsCls1.left K [.row .node all, .own 0 0, .row .node a, .int .i64 m, .int .i64 i] [.rowb 0 .str out]) = (
Br (decide (i < m))
  (Rq ((0 : Int) ≤ i ∧ i < (↑a.length : Int))
    (Rq ((0 : Int) = (0 : Int) ∧ all.length ≤ maxSl)
      (Rq ((256 : Int) ≠ (0 : Int))
        (Rq ((256 : Int) ≠ (0 : Int))
          (Rq
            ([IntKind.u8.wrap
                    (IntKind.i64.wrap
                      ((↑(fstI all
                                (Nd.mk (rd Ty.node a i).1 (rd Ty.node a i).2 (rd Ty.node a i).3 (rd Ty.node a i).4
                                  (rd Ty.node a i).5 (rd Ty.node a i).6)) :
                            Int).tdiv
                        (256 : Int))),
                  IntKind.u8.wrap
                    ((↑(fstI all
                              (Nd.mk (rd Ty.node a i).1 (rd Ty.node a i).2 (rd Ty.node a i).3 (rd Ty.node a i).4
                                (rd Ty.node a i).5 (rd Ty.node a i).6)) :
                          Int).tmod
                      (256 : Int))].length ≤
              maxSl)
            (Rq
              ((out.length +
                    [strOf
                          [IntKind.u8.wrap
                              (IntKind.i64.wrap
                                ((↑(fstI all
                                          (Nd.mk (rd Ty.node a i).1 (rd Ty.node a i).2 (rd Ty.node a i).3
                                            (rd Ty.node a i).4 (rd Ty.node a i).5 (rd Ty.node a i).6)) :
                                      Int).tdiv
                                  (256 : Int))),
                            IntKind.u8.wrap
                              ((↑(fstI all
                                        (Nd.mk (rd Ty.node a i).1 (rd Ty.node a i).2 (rd Ty.node a i).3
                                          (rd Ty.node a i).4 (rd Ty.node a i).5 (rd Ty.node a i).6)) :
                                    Int).tmod
                                (256 : Int))]].length) *
                  (16 : Nat) ≤
                maxSl)
              (K Ex.norm
                [AV.row Ty.node all, AV.own (0 : Nat) (0 : Nat), AV.row Ty.node a, AV.int IntKind.i64 m,
                  AV.int IntKind.i64 (IntKind.i64.wrap (i + (1 : Int)))]
                [Blk.rowb (0 : Nat) Ty.str
                    (out ++
                      [strOf
                          [IntKind.u8.wrap
                              (IntKind.i64.wrap
                                ((↑(fstI all
                                          (Nd.mk (rd Ty.node a i).1 (rd Ty.node a i).2 (rd Ty.node a i).3
                                            (rd Ty.node a i).4 (rd Ty.node a i).5 (rd Ty.node a i).6)) :
                                      Int).tdiv
                                  (256 : Int))),
                            IntKind.u8.wrap
                              ((↑(fstI all
                                        (Nd.mk (rd Ty.node a i).1 (rd Ty.node a i).2 (rd Ty.node a i).3
                                          (rd Ty.node a i).4 (rd Ty.node a i).5 (rd Ty.node a i).6)) :
                                    Int).tmod
                                (256 : Int))]])])))))))
  (K (Ex.exit (0 : Nat)) [AV.own (0 : Nat) (0 : Nat)] [Blk.rowb (0 : Nat) Ty.str out])) := by kernel_rfl
theorem vcCls2 (all a : List Nd) (k m i c0 c1 : Int) (c2 c4 : ByteArray) (c3 : List At) (c5 : List Nd) (out : List ByteArray) (K : Ex → List AV → List Blk → Prop) : (bodyA cxCls (LL Try.f105 [lsCls1, lsCls2]) Try.f105.ntmps (loopAt Try.f105 1).1 (loopAt Try.f105 1).2 lsCls2.keep lsCls2.left K [.row .node all, .own 0 0, .ptr 1 0, .int .i64 k, .row .node a, .int .i64 m, .int .i64 i] [.rowb 0 .str out, .box [.int .i64 c0, .int .i64 c1, .str c2, .row .attr c3, .str c4, .row .node c5]]) = (
Br (decide (k < (↑all.length : Int)))
  (Rq ((0 : Int) ≤ k ∧ k < (↑all.length : Int))
    (Gv (all.length ≤ maxSl)
      (Br
        (!eqNd
            (Nd.mk (rd Ty.node all k).1 (rd Ty.node all k).2 (rd Ty.node all k).3 (rd Ty.node all k).4
              (rd Ty.node all k).5 (rd Ty.node all k).6)
            (Nd.mk c0 c1 c2 c3 c4 c5))
        (K Ex.norm
          [AV.row Ty.node all, AV.own (0 : Nat) (0 : Nat), AV.ptr ((0 : Nat) + (1 : Nat)) (0 : Nat),
            AV.int IntKind.i64 (IntKind.i64.wrap (k + (1 : Int))), AV.row Ty.node a, AV.int IntKind.i64 m,
            AV.int IntKind.i64 i]
          [Blk.rowb (0 : Nat) Ty.str out,
            Blk.box
              [AV.int IntKind.i64 c0, AV.int IntKind.i64 c1, AV.str c2, AV.row Ty.attr c3, AV.str c4,
                AV.row Ty.node c5]])
        (K (Ex.exit (2 : Nat))
          [AV.row Ty.node all, AV.own (0 : Nat) (0 : Nat), AV.int IntKind.i64 k, AV.row Ty.node a, AV.int IntKind.i64 m,
            AV.int IntKind.i64 i]
          [Blk.rowb (0 : Nat) Ty.str out]))))
  (Gv (all.length ≤ maxSl)
    (K (Ex.exit (2 : Nat))
      [AV.row Ty.node all, AV.own (0 : Nat) (0 : Nat), AV.int IntKind.i64 k, AV.row Ty.node a, AV.int IntKind.i64 m,
        AV.int IntKind.i64 i]
      [Blk.rowb (0 : Nat) Ty.str out]))) := by kernel_rfl
theorem vcClsF (a all : List Nd) (Q : List AV → List Blk → List Blk → Prop) : (funA cxCls (LL Try.f105 [lsCls1, lsCls2]) Try.f105 [.row .node a, .row .node all] [] [.row .str] Q) = (
Gv (a.length ≤ maxSl)
  (Rq
    ((↑a.length : Int) = (↑a.length : Int) ∧
      (0 : Int) = (0 : Int) ∧ (0 : Nat) = (0 : Nat) ∧ all.length ≤ maxSl ∧ a.length * (16 : Nat) ≤ maxSl)
    (Q [AV.row Ty.str (List.map (clsT all) a)] [] []))) := by kernel_rfl
theorem vcWhF (a b : List Nd) (Q : List AV → List Blk → List Blk → Prop) : (funA cxWh (LL Try.f77 []) Try.f77 [.row .node a, .row .node b] [] [.row .rpair] Q) = (
Rq (a.length * (96 : Nat) ≤ maxSl)
  (Rq ((a.length + b.length) * (96 : Nat) ≤ maxSl)
    (Rq ((a ++ b).length ≤ maxSl ∧ a.length * (16 : Nat) ≤ maxSl)
      (Rq ((a ++ b).length ≤ maxSl ∧ b.length * (16 : Nat) ≤ maxSl)
        (Rq
          (((List.map (clsT (a ++ b)) a).length + (1 : Nat)) * (24 : Nat) ≤ maxSl ∧
            ((List.map (clsT (a ++ b)) b).length + (1 : Nat)) * (8 : Nat) ≤ maxSl ∧
              ((List.map (clsT (a ++ b)) a).length + (List.map (clsT (a ++ b)) b).length) * (24 : Nat) ≤ maxSl)
          (Q [AV.row Ty.rpair (lineT (List.map (clsT (a ++ b)) a) (List.map (clsT (a ++ b)) b))] [] [])))))) := by kernel_rfl
theorem vcAt20B (l : List Pr) (i m k : Int) (K : Ex → List AV → List Blk → Prop) : (bodyA cx0 (LL Try.f78 [lsAt20]) Try.f78.ntmps (loopAt Try.f78 0).1 (loopAt Try.f78 0).2 lsAt20.keep lsAt20.left K [.int .i64 i, .ptr 0 0, .row .rpair l, .int .i64 m, .int .i64 k] [.box [.int .i64 0, .int .i64 0, .bool false]]) = (
Br (decide (k < m))
  (Rq ((0 : Int) ≤ k ∧ k < (↑l.length : Int))
    (Br ((rd Ty.rpair l k).1 == i)
      (K Ex.ret [AV.int IntKind.i64 i, AV.ptr (0 : Nat) (0 : Nat)]
        [Blk.box
            [AV.int IntKind.i64 (rd Ty.rpair l k).1, AV.int IntKind.i64 (rd Ty.rpair l k).2,
              AV.bool (rd Ty.rpair l k).3]])
      (K Ex.norm
        [AV.int IntKind.i64 i, AV.ptr (0 : Nat) (0 : Nat), AV.row Ty.rpair l, AV.int IntKind.i64 m,
          AV.int IntKind.i64 (IntKind.i64.wrap (k + (1 : Int)))]
        [Blk.box [AV.int IntKind.i64 (0 : Int), AV.int IntKind.i64 (0 : Int), AV.bool false]])))
  (K (Ex.exit (0 : Nat)) [AV.int IntKind.i64 i, AV.ptr (0 : Nat) (0 : Nat)]
    [Blk.box [AV.int IntKind.i64 (0 : Int), AV.int IntKind.i64 (0 : Int), AV.bool false]])) := by kernel_rfl
theorem vcAt20F (l : List Pr) (i : Int) (Q : List AV → List Blk → List Blk → Prop) : (funA cx0 (LL Try.f78 [lsAt20]) Try.f78 [.row .rpair l, .int .i64 i] [] [] Q) = (
Gv (l.length ≤ maxSl)
  (Rq ((↑l.length : Int) = (↑l.length : Int) ∧ (0 : Int) = (0 : Int) ∧ l.length ≤ maxSl)
    (Br (hasP l i)
      (Q [AV.agg [AV.int IntKind.i64 (atP l i).1, AV.int IntKind.i64 (atP l i).2, AV.bool (atP l i).3]] [] [])
      (Q [AV.agg [AV.int IntKind.i64 i, AV.int IntKind.i64 (-1 : Int), AV.bool false]] [] [])))) := by kernel_rfl
end Go.Proofs.Ytmkjjopflncedaa.AX
end
section
namespace Go.Proofs.Ytmkjjopflncedaa.AXP
open Go Go.Proofs.Ytmkjjopflncedaa.AX
theorem rowR_len {α : Type} (eq : α → α → Bool) (x : α) : ∀ {b : List α} {l : List Int}, l.length = b.length + 1 → (rowR eq x b l).length = b.length + 1
  | [], l, _ => by cases l <;> rfl
  | y :: b, [], h => by simp at h
  | y :: b, h :: t, hl => by
    rw [rowR_cons, List.length_cons, rowR_len eq x (by simpa using hl), List.length_cons]
theorem head_mem {l : List Int} (h : 0 < l.length) : l.headD 0 ∈ l := by
  cases l with
  | nil => simp at h
  | cons a l => exact .head _
theorem rowR_bd {α : Type} (eq : α → α → Bool) (x : α) (M : Int) : ∀ {b : List α} {l : List Int}, l.length = b.length + 1 → (∀ v ∈ l, 0 ≤ v ∧ v ≤ M) → 0 ≤ M → ∀ v ∈ rowR eq x b l, 0 ≤ v ∧ v ≤ M + 1
  | [], l, _, _, hM, v, hv => by
    have e : rowR eq x ([] : List α) l = [0] := by cases l <;> rfl
    rw [e, List.mem_singleton] at hv
    omega
  | y :: b, [], h, _, _, _, _ => by simp at h
  | y :: b, h :: t, hl, hb, hM, v, hv => by
    have hl' : t.length = b.length + 1 := by simpa using hl
    have ih := rowR_bd eq x M (b := b) hl' (fun v hv => hb v (.tail _ hv)) hM
    rw [rowR_cons] at hv
    rcases List.mem_cons.1 hv with rfl | hv
    · have h1 := hb h (.head _)
      have h2 := ih _ (head_mem (by rw [rowR_len eq x hl']; omega))
      have h3 := hb _ (.tail _ (head_mem (l := t) (by omega)))
      dsimp only
      split <;> split <;> omega
    · exact ih v hv
theorem cntR_len {α : Type} (eq : α → α → Bool) (b : List α) : ∀ a : List α, ((cntR eq a b).headD []).length = b.length + 1 ∧ ∀ v ∈ (cntR eq a b).headD [], 0 ≤ v ∧ v ≤ (a.length : Int)
  | [] => by
    refine ⟨by simp [cntR], fun v hv => ?_⟩
    have : v = 0 := by simpa [cntR] using hv
    subst this; exact ⟨Int.le_refl _, Int.le_refl _⟩
  | x :: a => by
    obtain ⟨h1, h2⟩ := cntR_len eq b a
    refine ⟨rowR_len eq x h1, fun v hv => ?_⟩
    have := rowR_bd eq x _ h1 h2 (by omega) v hv
    rw [List.length_cons]; omega
theorem cntR_ne {α : Type} (eq : α → α → Bool) (b : List α) : ∀ a : List α, 0 < (cntR eq a b).length
  | [] => by simp [cntR]
  | x :: a => by simp [cntR]
theorem cntR_cons {α : Type} (eq : α → α → Bool) (x : α) (a b : List α) : cntR eq (x :: a) b = rowR eq x b ((cntR eq a b).headD []) :: cntR eq a b := rfl
theorem fst_mem : ∀ {l : List Nd} {n : Nd}, n ∈ l → fstI l n < l.length ∧ l[fstI l n]? = some n
  | x :: l, n, h => by
    rw [fstI]
    by_cases e : eqNd x n = true
    · rw [if_pos e]
      exact ⟨by simp, by rw [(eqNd_iff x n).1 e]; rfl⟩
    · rw [if_neg e]
      have h' : n ∈ l := by
        cases h with
        | head => exact absurd (eqNd_self _) e
        | tail _ h => exact h
      obtain ⟨h1, h2⟩ := fst_mem h'
      refine ⟨by rw [List.length_cons]; omega, ?_⟩
      rw [Nat.add_comm 1, List.getElem?_cons_succ]; exact h2
theorem clsK_inj {i j : Nat} (hi : i < 65536) (hj : j < 65536) (h : clsK i = clsK j) : i = j := by
  have key : ∀ k : Nat, k < 65536 → kd (clsK k) = [UInt8.ofNat (k / 256), UInt8.ofNat (k % 256)] := fun k hk => by
    have e1 : IntKind.u8.wrap (IntKind.i64.wrap ((k : Int).tdiv 256)) = ((k / 256 : Nat) : Int) := by
      rw [Int.tdiv_eq_ediv_of_nonneg (by omega), wrap_id' (by omega) (by omega)]
      show (_ : Int) % 256 = _
      omega
    have e2 : IntKind.u8.wrap ((k : Int).tmod 256) = ((k % 256 : Nat) : Int) := by
      rw [Int.tmod_eq_emod_of_nonneg (by omega)]
      show (_ : Int) % 256 = _
      omega
    unfold clsK
    rw [e1, e2]
    rfl
  have h1 := key i hi
  rw [h, key j hj] at h1
  injection h1 with a1 a2
  injection a2 with a2 _
  have b1 := congrArg UInt8.toNat a1
  have b2 := congrArg UInt8.toNat a2
  simp only [UInt8.toNat_ofNat'] at b1 b2
  omega
theorem eqS_cls {all : List Nd} (hl : all.length ≤ 65536) {x y : Nd} (hx : x ∈ all) (hy : y ∈ all) : eqS (clsT all x) (clsT all y) = eqNd x y := by
  rw [Bool.eq_iff_iff, eqS_iff, eqNd_iff]
  obtain ⟨h1, h2⟩ := fst_mem hx
  obtain ⟨h3, h4⟩ := fst_mem hy
  constructor
  · intro h
    have e := clsK_inj (by omega) (by omega) h
    rw [e, h4] at h2
    injection h2 with h2
    exact h2.symm
  · rintro rfl; rfl
theorem lineT_map {f : Nd → ByteArray} {a b : List Nd} (h : ∀ x ∈ a, ∀ y ∈ b, eqS (f x) (f y) = eqNd x y) : lineT (a.map f) (b.map f) = wholeS a b := by
  unfold lineT wholeS
  rw [List.length_map, List.length_map, cntP_map eqNd eqS f f b a h]
  refine lineF_congr (fun i j hi hj => ?_) (fun _ _ _ _ => rfl) _ _ _
  unfold eT eN
  rw [map_getD hi, map_getD hj]
  exact h _ (by rw [getD_at hi]; exact List.getElem_mem hi) _ (by rw [getD_at hj]; exact List.getElem_mem hj)
theorem hasP_no : ∀ {l : List Pr} {i : Int}, hasP l i = false → atP l i = ⟨i, -1, false⟩
  | [], _, _ => rfl
  | p :: l, i, h => by
    have h : ((p.a == i) || hasP l i) = false := h
    rw [Bool.or_eq_false_iff] at h
    rw [atP, if_neg (by rw [h.1]; decide)]
    exact hasP_no h.2
end Go.Proofs.Ytmkjjopflncedaa.AXP
namespace Go.Proofs.Ytmkjjopflncedaa.AX
open Go AXP
set_option maxRecDepth 100000
theorem rd_rests {a : List (List Int)} {i : Nat} (h : i < a.length) : rd .rest a (i : Int) = a.getD i [] := by
  rw [rd_get (t := .rest) h, List.getD_eq_getElem?_getD, List.getElem?_eq_getElem h]; rfl
theorem rd_rpair {a : List Pr} {i : Nat} (h : i < a.length) : rd .rpair a (i : Int) = a[i] := rd_get (t := .rpair) h
theorem rd_head {l : List Int} (h : 0 < l.length) : rd .int l 0 = l.headD 0 := by
  cases l with
  | nil => simp at h
  | cons a l => rfl
theorem rd_headR {l : List (List Int)} (h : 0 < l.length) : rd .rest l 0 = l.headD [] := by
  cases l with
  | nil => simp at h
  | cons a l => rfl
def blBs : Nat → List Blk
  | 0 => [.box [.nil]]
  | n + 1 => [.box [.own 1 0], .rowb 0 .int (List.replicate (n + 1) 0)]
theorem bs1_sum : SumOK cx0 (LL Try.f114 [lsBs1, lsBs2, lsBs3]) Try.f114.ntmps (loopAt Try.f114 0).1 (loopAt Try.f114 0).2 lsBs1 := by
  intro vs bs K hs
  unfold lsBs1 at hs
  simp only at hs
  split at hs
  case h_2 => exact hs.elim
  rename_i a b m i
  obtain ⟨⟨rfl, rfl, hsz⟩, h⟩ := hs
  rcases (show ∃ w : List ByteArray, w = b from ⟨_, rfl⟩) with ⟨b, rfl⟩
  have hlb : b.length ≤ maxSl := by omega
  refine sum_rec (σ := Nat) (fun i => [.row .str a, .row .str b, .ptr 0 0, .int .i64 b.length, .int .i64 (i : Nat)]) blBs (fun i => i ≤ b.length) (fun i => b.length - i) ?_ 0 (Nat.zero_le _)
  intro i hi R hR
  cases i with
  | zero =>
    refine Eq.mpr (vcBs0 a b b.length ((0 : Nat) : Int) _) ⟨fun h1 => ⟨by simp only [List.length_cons, List.length_nil]; unfold maxSl; omega, ?_⟩, fun h1 => ?_⟩
    · have h1 : ((0 : Nat) : Int) < (b.length : Int) := of_decide_eq_true h1
      rw [wrap_succ (show 0 < b.length by omega) hlb]
      exact hR 1 (by omega) (by omega)
    · have h1 : ¬ ((0 : Nat) : Int) < (b.length : Int) := of_decide_eq_false h1
      exact h.yes (by rw [beq_iff_eq]; omega)
  | succ n =>
    refine Eq.mpr (vcBs1 a b b.length ((n + 1 : Nat) : Int) (List.replicate (n + 1) 0) _) ⟨fun h1 => ?_, fun h1 => ?_⟩
    · have h1 : ((n + 1 : Nat) : Int) < (b.length : Int) := of_decide_eq_true h1
      have hn : n + 1 < b.length := by omega
      rw [wrap_succ hn hlb]
      refine ⟨by simp only [List.length_cons, List.length_nil, List.length_replicate]; omega, ?_⟩
      have := hR (n + 2) (by omega) (by omega)
      have e : blBs (n + 2) = [.box [.own 1 0], .rowb 0 .int (List.replicate (n + 1) 0 ++ [0])] := by rw [← List.replicate_succ']; rfl
      rw [e] at this
      exact this
    · have h1 : ¬ ((n + 1 : Nat) : Int) < (b.length : Int) := of_decide_eq_false h1
      have e : n + 1 = b.length := by omega
      have := h.no (by rw [beq_eq_false_iff_ne]; omega)
      rw [← e] at this
      exact this
theorem bs3_sum : SumOK cx0 (LL Try.f114 [lsBs1, lsBs2, lsBs3]) Try.f114.ntmps (loopAt Try.f114 2).1 (loopAt Try.f114 2).2 lsBs3 := by
  intro vs bs K hs
  unfold lsBs3 at hs
  simp only at hs
  split at hs
  case h_2 => exact hs.elim
  rename_i a b i ahead j out row
  obtain ⟨⟨h0, hia, hj, rfl, hla, hbd, hsz⟩, h⟩ := hs
  rcases (show ∃ w : List ByteArray, w = a from ⟨_, rfl⟩) with ⟨a, rfl⟩
  rcases (show ∃ w : List ByteArray, w = b from ⟨_, rfl⟩) with ⟨b, rfl⟩
  rcases (show ∃ w : List Int, w = ahead from ⟨_, rfl⟩) with ⟨ahead, rfl⟩
  rcases (show ∃ w : List (List Int), w = out from ⟨_, rfl⟩) with ⟨out, rfl⟩
  obtain ⟨i, rfl⟩ := Int.eq_ofNat_of_zero_le h0
  have hi : i < a.length := by omega
  obtain rfl : j = (b.length : Int) - 1 := by omega
  have hlb : b.length ≤ maxSl := by omega
  have e0 : rowR eqS (rd .str a i) (b.drop b.length) (ahead.drop b.length) = [0] := by rw [List.drop_length]; rfl
  refine sum_rec (σ := Nat × List Int) (fun s => [.row .str a, .row .str b, .own 0 0, .int .i64 i, .row .int ahead, .own 1 0, .int .i64 ((s.1 : Int) - 1)]) (fun s => [.rowb 0 .rest out, .rowb 0 .int s.2])
    (fun s => s.1 ≤ b.length ∧ s.2 = rowR eqS (rd .str a i) (b.drop s.1) (ahead.drop s.1)) (fun s => s.1) ?_ (b.length, [0]) ⟨Nat.le_refl _, e0.symm⟩
  rintro ⟨c, row⟩ ⟨hc, hrow⟩ R hR
  dsimp only at hc hrow hR ⊢
  cases c with
  | zero =>
    refine Eq.mpr (vcBs3 a b i _ out ahead row _) ⟨fun h1 => ?_, fun h1 => ?_⟩
    · have h1 : ((0 : Nat) : Int) - 1 ≥ 0 := of_decide_eq_true h1
      omega
    · rw [List.drop_zero, List.drop_zero] at hrow
      rw [hrow]; exact h
  | succ n =>
    have hnb : n < b.length := hc
    have hna : n < ahead.length := by omega
    have hna' : n + 1 < ahead.length := by omega
    have hlen : row.length = (b.drop (n + 1)).length + 1 := by
      rw [hrow]; exact rowR_len _ _ (by simp only [List.length_drop]; omega)
    have hlen' : row.length = b.length - n := by rw [hlen, List.length_drop]; omega
    have hstep : rowR eqS (rd .str a i) (b.drop n) (ahead.drop n) = (let v := (if ahead.getD n 0 > row.headD 0 then ahead.getD n 0 else row.headD 0); if (eqS (rd .str a i) (rd .str b n) && decide (ahead.getD (n + 1) 0 + 1 > v)) = true then ahead.getD (n + 1) 0 + 1 else v) :: row := by
      rw [List.drop_eq_getElem_cons hnb, List.drop_eq_getElem_cons hna, rowR_cons, ← hrow, rd_get (t := .str) hnb, List.headD_eq_head?_getD (l := List.drop (n + 1) ahead), List.head?_drop]
      simp only [List.getD_eq_getElem?_getD, List.getElem?_eq_getElem hna]
      rfl
    have eT1 : (0 : Int) ≤ ahead.getD (n + 1) 0 ∧ (ahead.getD (n + 1) 0 : Int) < ((140737488355328 : Nat) : Int) := hbd (ahead.getD (n + 1) 0) (by rw [List.getD_eq_getElem?_getD, List.getElem?_eq_getElem hna']; exact List.getElem_mem hna')
    have ew : IntKind.i64.wrap (ahead.getD (n + 1) 0 + 1) = ahead.getD (n + 1) 0 + 1 := by
      rw [wrap_id'] <;> omega
    have ej : ((n + 1 : Nat) : Int) - 1 = (n : Int) := by omega
    rw [ej]
    have hj1 : IntKind.i64.wrap ((n : Int) + 1) = ((n + 1 : Nat) : Int) := wrap_succ hnb hlb
    have hj2 : IntKind.i64.wrap ((n : Int) - 1) = (n : Int) - 1 := by unfold maxSl at hlb; rw [wrap_id'] <;> omega
    refine Eq.mpr (vcBs3 a b i n out ahead row _) ⟨fun h1 => ?_, fun h1 => ?_⟩
    · rw [hj1, hj2, rd_ints hna, rd_ints hna', rd_head (show 0 < row.length by omega), ew]
      have key : ∀ v, rowR eqS (rd .str a i) (b.drop n) (ahead.drop n) = v :: row → Rq (([v].length + row.length) * 8 ≤ maxSl) (rk K R Ex.norm [.row .str a, .row .str b, .own 0 0, .int .i64 i, .row .int ahead, .own 1 0, .int .i64 ((n : Int) - 1)] [.rowb 0 .rest out, .rowb 0 .int ([v] ++ row)]) := fun v hv => by
        refine ⟨by simp only [List.length_cons, List.length_nil]; omega, ?_⟩
        exact hR (n, [v] ++ row) ⟨by omega, by rw [hv]; rfl⟩ (by dsimp only; omega)
      have hna2 : ((n : Int)) < (ahead.length : Int) := by omega
      refine Rq.mk ⟨Int.le_refl _, by omega⟩ (Rq.mk ⟨by omega, hna2⟩ ⟨fun h2 => Rq.mk ⟨by omega, hna2⟩ ?_, fun h2 => ?_⟩)
      · rw [show (if ahead.getD n 0 > row.headD 0 then ahead.getD n 0 else row.headD 0) = ahead.getD n 0 from if_pos (of_decide_eq_true h2)] at hstep
        refine Rq.mk ⟨by omega, by omega⟩ (Rq.mk ⟨by omega, by omega⟩ ⟨fun h3 => Rq.mk ⟨by omega, by omega⟩ ⟨fun h4 => Rq.mk ⟨by omega, by omega⟩ (key _ ?_), fun h4 => key _ ?_⟩, fun h3 => key _ ?_⟩)
        · rw [hstep]; dsimp only; rw [h3, h4]; rfl
        · rw [hstep]; dsimp only; rw [h3, h4]; rfl
        · rw [hstep]; dsimp only; rw [h3]; rfl
      · rw [show (if ahead.getD n 0 > row.headD 0 then ahead.getD n 0 else row.headD 0) = row.headD 0 from if_neg (of_decide_eq_false h2)] at hstep
        refine Rq.mk ⟨by omega, by omega⟩ (Rq.mk ⟨by omega, by omega⟩ ⟨fun h3 => Rq.mk ⟨by omega, by omega⟩ ⟨fun h4 => Rq.mk ⟨by omega, by omega⟩ (key _ ?_), fun h4 => key _ ?_⟩, fun h3 => key _ ?_⟩)
        · rw [hstep]; dsimp only; rw [h3, h4]; rfl
        · rw [hstep]; dsimp only; rw [h3, h4]; rfl
        · rw [hstep]; dsimp only; rw [h3]; rfl
    · have h1 : ¬ ((n : Int) ≥ 0) := of_decide_eq_false h1
      omega
theorem bs2_sum : SumOK cx0 (LL Try.f114 [lsBs1, lsBs2, lsBs3]) Try.f114.ntmps (loopAt Try.f114 1).1 (loopAt Try.f114 1).2 lsBs2 := by
  intro vs bs K hs
  unfold lsBs2 at hs
  simp only at hs
  split at hs
  case h_2 => exact hs.elim
  rename_i a b i out
  obtain ⟨⟨hi, rfl, hsa, hsb⟩, h⟩ := hs
  rcases (show ∃ w : List ByteArray, w = a from ⟨_, rfl⟩) with ⟨a, rfl⟩
  rcases (show ∃ w : List ByteArray, w = b from ⟨_, rfl⟩) with ⟨b, rfl⟩
  obtain rfl : i = (a.length : Int) - 1 := by omega
  have hlb : b.length ≤ maxSl := by omega
  have hla : a.length ≤ maxSl := by omega
  refine sum_rec (σ := Nat × List (List Int)) (fun s => [.row .str a, .row .str b, .own 0 0, .int .i64 ((s.1 : Int) - 1)]) (fun s => [.rowb 0 .rest s.2])
    (fun s => s.1 ≤ a.length ∧ s.2 = cntR eqS (a.drop s.1) b) (fun s => s.1) ?_ (a.length, [List.replicate (b.length + 1) 0]) ⟨Nat.le_refl _, by rw [List.drop_length]; rfl⟩
  rintro ⟨c, out⟩ ⟨hc, hout⟩ R hR
  dsimp only at hc hout hR ⊢
  cases c with
  | zero =>
    refine Eq.mpr (vcBs2 a b _ out _) ⟨fun h1 => ?_, fun h1 => ?_⟩
    · have h1 : ((0 : Nat) : Int) - 1 ≥ 0 := of_decide_eq_true h1
      omega
    · rw [List.drop_zero] at hout
      rw [hout]; exact h
  | succ n =>
    have hna : n < a.length := hc
    have ej : ((n + 1 : Nat) : Int) - 1 = (n : Int) := by omega
    rw [ej]
    have hj2 : IntKind.i64.wrap ((n : Int) - 1) = (n : Int) - 1 := by unfold maxSl at hla; rw [wrap_id'] <;> omega
    have ho : 0 < out.length := by rw [hout]; exact cntR_ne _ _ _
    have hol : out.length = a.length - n := by
      rw [hout, (cntP_ok eqS b _).2.2, cntP_len, List.length_drop]; omega
    obtain ⟨c1, c2⟩ := cntR_len eqS b (a.drop (n + 1))
    rw [← hout] at c1 c2
    refine Eq.mpr (vcBs2 a b n out _) ⟨fun h1 => ?_, fun h1 => ?_⟩
    · rw [hj2, rd_headR ho]
      refine Rq.mk ⟨Int.le_refl _, by omega⟩ ⟨fun _ => Rq.mk ⟨by omega, by omega, ?_, rfl, c1, fun v hv => ?_, hsb⟩ (Rq.mk ?_ ?_)⟩
      · rw [wrap_id'] <;> (unfold maxSl at hlb; omega)
      · rcases (show ∃ w : Int, w = v from ⟨_, rfl⟩) with ⟨v, rfl⟩
        obtain ⟨q1, q2⟩ := c2 v hv
        rw [List.length_drop] at q2
        have q3 : v < ((maxSl : Nat) : Int) := by omega
        exact ⟨q1, q3⟩
      · simp only [List.length_cons, List.length_nil]; omega
      · refine hR (n, rowR eqS (rd .str a n) b (out.headD []) :: out) ⟨by omega, ?_⟩ (by dsimp only; omega)
        dsimp only
        rw [List.drop_eq_getElem_cons hna, cntR_cons, ← hout, rd_get (t := .str) hna]
    · have h1 : ¬ ((n : Int) ≥ 0) := of_decide_eq_false h1
      omega
theorem best_holds : Holds 114 conBest := conP_holds fun a b => by
  rcases (show ∃ w : List ByteArray, w = a from ⟨_, rfl⟩) with ⟨a, rfl⟩
  rcases (show ∃ w : List ByteArray, w = b from ⟨_, rfl⟩) with ⟨b, rfl⟩
  refine fun_meetsL tok0 [.row .rest] [lsBs1, lsBs2, lsBs3] (by kernel_rfl) (by kernel_rfl) (fun i z hz => by
    match i, hz with
    | 0, hz => simp at hz; subst hz; exact bs1_sum
    | 1, hz => simp at hz; subst hz; exact bs2_sum
    | 2, hz => simp at hz; subst hz; exact bs3_sum
    | i + 3, hz => simp at hz) fun hpre => Eq.mpr (vcBestF a b _) ?_
  obtain ⟨h1, h2⟩ : (a.length + 1) * 24 ≤ maxSl ∧ (b.length + 1) * 8 ≤ maxSl := hpre _ rfl
  have ew : a.length ≤ maxSl → IntKind.i64.wrap ((a.length : Int) - 1) + 1 = (a.length : Int) := fun h => by
    unfold maxSl at h; rw [wrap_id'] <;> omega
  refine ⟨fun hb => Rq.mk ⟨rfl, rfl, h2⟩ ⟨fun h3 => Rq.mk ?_ ⟨fun ha => Rq.mk ⟨ew ha, ?_, h1, h2⟩ (qfin rfl rfl rfl rfl)⟩, fun h3 => Rq.mk ?_ ⟨fun ha => Rq.mk ⟨ew ha, ?_, h1, h2⟩ (qfin rfl rfl rfl rfl)⟩⟩⟩
  · simp only [List.length_cons, List.length_nil]; unfold maxSl; omega
  · have : b.length = 0 := by simpa using h3
    rw [this]; rfl
  · simp only [List.length_cons, List.length_nil, List.length_replicate]; omega
  · rw [List.replicate_succ']
theorem lineR_sum : SumOK cxLineR (LL Try.f104 [lsLineR]) Try.f104.ntmps (loopAt Try.f104 0).1 (loopAt Try.f104 0).2 lsLineR := by
  intro vs bs K hs
  unfold lsLineR at hs
  simp only at hs
  split at hs
  case h_2 => exact hs.elim
  rename_i a b n i j out
  obtain ⟨⟨rfl, rfl, rfl, h0, hla, hlb, hsz⟩, h⟩ := hs
  have : out = [] := List.eq_nil_of_length_eq_zero h0
  subst this
  rcases (show ∃ w : List ByteArray, w = a from ⟨_, rfl⟩) with ⟨a, rfl⟩
  rcases (show ∃ w : List ByteArray, w = b from ⟨_, rfl⟩) with ⟨b, rfl⟩
  refine sum_rec (σ := Nat × Nat × List Pr) (fun s => [.row .str a, .row .str b, .row .rest (cntP eqS a b), .own 0 0, .int .i64 s.1, .int .i64 s.2.1]) (fun s => [.rowb 0 .rpair s.2.2])
    (fun s => s.1 ≤ a.length ∧ s.2.1 ≤ b.length ∧ s.2.2.length ≤ s.1 ∧ K (.exit 0) [.own 0 0] [.rowb 0 .rpair (s.2.2 ++ lineF (eT a b) (gN (cntP eqS a b)) a.length b.length (a.length + b.length - (s.1 + s.2.1)) s.1 s.2.1)])
    (fun s => a.length + b.length - (s.1 + s.2.1)) ?_ (0, 0, []) ⟨Nat.zero_le _, Nat.zero_le _, Nat.le_refl _, by rw [List.nil_append]; exact h⟩
  rintro ⟨i, j, out⟩ ⟨hi, hj, ho, hK⟩ R hR
  dsimp only at hi hj ho hK hR ⊢
  refine Eq.mpr (vcLineRB a b _ out i j _) ⟨fun h1 => ⟨fun _ => ⟨fun _ => ⟨fun h2 => ?_, fun h2 => ?_⟩⟩⟩, fun h1 => ⟨fun _ => ?_⟩⟩
  · have h1 : (i : Int) < (a.length : Int) := of_decide_eq_true h1
    have h2 : (j : Int) < (b.length : Int) := of_decide_eq_true h2
    have hia : i < a.length := by omega
    have hjb : j < b.length := by omega
    obtain ⟨f, hf⟩ : ∃ f, a.length + b.length - (i + j) = f + 1 := ⟨a.length + b.length - (i + j) - 1, by omega⟩
    rw [hf, lineF_succ, if_pos ⟨hia, hjb⟩] at hK
    obtain ⟨r1, _⟩ := cnt_row a b (r := i) hi
    obtain ⟨r2, _⟩ := cnt_row a b (r := i + 1) hia
    have hn := cntP_len eqS b a
    rw [rd_strs hia, rd_strs hjb, wrap_succ hia hla, wrap_succ hjb hlb, rd_rests (show i < (cntP eqS a b).length by omega), rd_rests (show i + 1 < (cntP eqS a b).length by omega), rd_ints (show j < ((cntP eqS a b).getD (i + 1) []).length by omega), rd_ints (show j + 1 < ((cntP eqS a b).getD i []).length by omega)]
    refine ⟨⟨by omega, by omega⟩, ⟨⟨by omega, by omega⟩, ⟨fun h3 => ⟨?_, ?_⟩, fun h3 => ⟨⟨by omega, by omega⟩, ⟨⟨by omega, by omega⟩, ⟨⟨by omega, by omega⟩, ⟨⟨by omega, by omega⟩, ⟨fun h4 => ?_, fun h4 => ?_⟩⟩⟩⟩⟩⟩⟩⟩
    · simp only [List.length_cons, List.length_nil]; omega
    · have h3 : eT a b i j = true := h3
      rw [if_pos h3] at hK
      refine hR (i + 1, j + 1, out ++ [⟨i, j, true⟩]) ⟨hia, hjb, by simp; omega, ?_⟩ (by dsimp only; omega)
      dsimp only
      obtain ⟨g, hg⟩ : ∃ g, f = g + 1 ∨ (f = 0 ∧ g = 0) := ⟨f - 1, by omega⟩
      rw [List.append_assoc]
      have e : lineF (eT a b) (gN (cntP eqS a b)) a.length b.length f (i + 1) (j + 1) = lineF (eT a b) (gN (cntP eqS a b)) a.length b.length (a.length + b.length - (i + 1 + (j + 1))) (i + 1) (j + 1) := by
        rw [show f = a.length + b.length - (i + 1 + (j + 1)) + 1 by omega]
        exact lineF_fuel _ _ _ (Nat.le_refl _) hia hjb
      rw [← e]; exact hK
    · have h3 : eT a b i j = false := h3
      have h4 : gN (cntP eqS a b) i j = true := h4
      rw [if_neg (by rw [h3]; decide), if_pos h4] at hK
      refine hR (i + 1, j, out) ⟨hia, hj, by dsimp only; omega, ?_⟩ (by dsimp only; omega)
      dsimp only
      rw [show a.length + b.length - (i + 1 + j) = f by omega]; exact hK
    · have h3 : eT a b i j = false := h3
      have h4 : gN (cntP eqS a b) i j = false := h4
      rw [if_neg (by rw [h3]; decide), if_neg (by rw [h4]; decide)] at hK
      refine hR (i, j + 1, out) ⟨hi, hjb, ho, ?_⟩ (by dsimp only; omega)
      dsimp only
      rw [show a.length + b.length - (i + (j + 1)) = f by omega]; exact hK
  · have h2 : ¬ (j : Int) < (b.length : Int) := of_decide_eq_false h2
    have e : lineF (eT a b) (gN (cntP eqS a b)) a.length b.length (a.length + b.length - (i + j)) i j = [] := by
      cases a.length + b.length - (i + j) with
      | zero => rfl
      | succ f => rw [lineF_succ, if_neg (by omega)]
    rw [e, List.append_nil] at hK
    exact hK
  · have h1 : ¬ (i : Int) < (a.length : Int) := of_decide_eq_false h1
    have e : lineF (eT a b) (gN (cntP eqS a b)) a.length b.length (a.length + b.length - (i + j)) i j = [] := by
      cases a.length + b.length - (i + j) with
      | zero => rfl
      | succ f => rw [lineF_succ, if_neg (by omega)]
    rw [e, List.append_nil] at hK
    exact hK
theorem lineR_holds : Holds 104 conLineR := conP_holds fun a b => by
  refine fun_meets1 (AllH.tok (.cons best_holds (by kernel_rfl) .nil)) [.own .rpair] lsLineR (by kernel_rfl) (by kernel_rfl) lineR_sum fun hpre => Eq.mpr (vcLineRF a b _) ?_
  obtain ⟨h1, h2, h3⟩ := hpre _ rfl
  exact ⟨⟨h1, h2⟩, ⟨⟨(cntP_ok eqS b a).2.2, rfl, rfl, rfl, by omega, by omega, h3⟩, qfin rfl rfl rfl rfl⟩⟩
theorem alk20_holds : Holds 79 conAlk20 := conP_holds fun x y => by
  refine fun_meets0 tok0 [] (by kernel_rfl) (by kernel_rfl) fun hpre => Eq.mpr (vcAlk20F x y _) ?_
  refine ⟨fun h1 => ⟨fun h2 => qfin rfl ?_ rfl rfl, fun h2 => qfin rfl ?_ rfl rfl⟩, fun h1 => qfin rfl ?_ rfl rfl⟩
  · show [AV.bool _] = [AV.bool (x.kind == y.kind && x.space == y.space && eqS x.name y.name)]
    rw [h1, h2]; rfl
  · show [AV.bool _] = [AV.bool (x.kind == y.kind && x.space == y.space && eqS x.name y.name)]
    rw [h1, h2]; rfl
  · show [AV.bool _] = [AV.bool (x.kind == y.kind && x.space == y.space && eqS x.name y.name)]
    rw [h1]; rfl
theorem cls2_sum : SumOK cxCls (LL Try.f105 [lsCls1, lsCls2]) Try.f105.ntmps (loopAt Try.f105 1).1 (loopAt Try.f105 1).2 lsCls2 := by
  intro vs bs K hs
  unfold lsCls2 at hs
  simp only at hs
  split at hs
  case h_2 => exact hs.elim
  rename_i all k a m i out c0 c1 c2 c3 c4 c5
  obtain ⟨⟨rfl, hl⟩, h⟩ := hs
  rcases (show ∃ w : List Nd, w = all from ⟨_, rfl⟩) with ⟨all, rfl⟩
  refine sum_rec (σ := Nat) (fun k => [.row .node all, .own 0 0, .ptr 1 0, .int .i64 (k : Nat), .row .node a, .int .i64 m, .int .i64 i]) (fun _ => [.rowb 0 .str out, .box [.int .i64 c0, .int .i64 c1, .str c2, .row .attr c3, .str c4, .row .node c5]])
    (fun k => k ≤ all.length ∧ fstI all ⟨c0, c1, c2, c3, c4, c5⟩ = k + fstI (all.drop k) ⟨c0, c1, c2, c3, c4, c5⟩) (fun k => all.length - k) ?_ 0 ⟨Nat.zero_le _, by rw [List.drop_zero, Nat.zero_add]⟩
  rintro k ⟨hk, e⟩ R hR
  refine Eq.mpr (vcCls2 all a k m i c0 c1 c2 c4 c3 c5 out _) ⟨fun h1 => ?_, fun h1 => ⟨fun _ => ?_⟩⟩
  · have h1 : (k : Int) < (all.length : Int) := of_decide_eq_true h1
    have hka : k < all.length := by omega
    rw [List.drop_eq_getElem_cons hka, fstI] at e
    rw [rd_nd hka, nd_eta, wrap_succ hka hl]
    refine Rq.mk ⟨by omega, h1⟩ ⟨fun _ => ⟨fun h2 => ?_, fun h2 => ?_⟩⟩
    · have h2 : eqNd all[k] ⟨c0, c1, c2, c3, c4, c5⟩ = false := by simpa using h2
      rw [if_neg (by rw [h2]; decide)] at e
      exact hR (k + 1) ⟨hka, by rw [e]; omega⟩ (by omega)
    · have h2 : eqNd all[k] ⟨c0, c1, c2, c3, c4, c5⟩ = true := by simpa using h2
      rw [if_pos h2, Nat.add_zero] at e
      rw [e] at h
      exact h
  · have h1 : ¬ (k : Int) < (all.length : Int) := of_decide_eq_false h1
    rw [List.drop_of_length_le (by omega), fstI, Nat.add_zero] at e
    rw [e] at h
    exact h
theorem cls1_sum : SumOK cxCls (LL Try.f105 [lsCls1, lsCls2]) Try.f105.ntmps (loopAt Try.f105 0).1 (loopAt Try.f105 0).2 lsCls1 := by
  intro vs bs K hs
  unfold lsCls1 at hs
  simp only at hs
  split at hs
  case h_2 => exact hs.elim
  rename_i all a m i out
  obtain ⟨⟨rfl, rfl, h0, hl, hsz⟩, h⟩ := hs
  obtain rfl : out = [] := List.eq_nil_of_length_eq_zero h0
  rcases (show ∃ w : List Nd, w = all from ⟨_, rfl⟩) with ⟨all, rfl⟩
  rcases (show ∃ w : List Nd, w = a from ⟨_, rfl⟩) with ⟨a, rfl⟩
  refine sum_rec (σ := Nat) (fun i => [.row .node all, .own 0 0, .row .node a, .int .i64 a.length, .int .i64 (i : Nat)]) (fun i => [.rowb 0 .str ((a.take i).map (clsT all))]) (fun i => i ≤ a.length) (fun i => a.length - i) ?_ 0 (Nat.zero_le _)
  rintro i hi R hR
  refine Eq.mpr (vcCls1 all a a.length i _ _) ⟨fun h1 => ?_, fun h1 => ?_⟩
  · have h1 : (i : Int) < (a.length : Int) := of_decide_eq_true h1
    have hia : i < a.length := by omega
    rw [rd_nd hia, nd_eta, wrap_succ hia (by omega)]
    refine Rq.mk ⟨by omega, h1⟩ (Rq.mk ⟨rfl, hl⟩ (Rq.mk (by decide) (Rq.mk (by decide) (Rq.mk (by simp only [List.length_cons, List.length_nil]; unfold maxSl; omega) (Rq.mk ?_ ?_)))))
    · simp only [List.length_cons, List.length_nil, List.length_map, List.length_take]; omega
    · have := hR (i + 1) hia (by omega)
      rw [List.take_succ_eq_append_getElem hia, List.map_append] at this
      exact this
  · have h1 : ¬ (i : Int) < (a.length : Int) := of_decide_eq_false h1
    rw [List.take_of_length_le (by omega)]
    exact h
theorem cls_holds : Holds 105 conCls := conP_holds fun a all => by
  refine fun_meetsL (AllH.tok (.cons node_holds (by kernel_rfl) .nil)) [.row .str] [lsCls1, lsCls2] (by kernel_rfl) (by kernel_rfl) (fun i z hz => by
    match i, hz with
    | 0, hz => simp at hz; subst hz; exact cls1_sum
    | 1, hz => simp at hz; subst hz; exact cls2_sum
    | i + 2, hz => simp at hz) fun hpre => Eq.mpr (vcClsF a all _) ?_
  obtain ⟨h1, h2⟩ := hpre _ rfl
  exact ⟨fun _ => Rq.mk ⟨rfl, rfl, rfl, h1, h2⟩ (qfin rfl rfl rfl rfl)⟩
theorem wh_holds : Holds 77 conWh := conP_holds fun a b => by
  rcases (show ∃ w : List Nd, w = a from ⟨_, rfl⟩) with ⟨a, rfl⟩
  rcases (show ∃ w : List Nd, w = b from ⟨_, rfl⟩) with ⟨b, rfl⟩
  refine fun_meets0C (AllH.tok (.cons cls_holds (by kernel_rfl) (.cons lineR_holds (by kernel_rfl) .nil))) coldWh [.row .rpair] (by kernel_rfl) (by kernel_rfl) fun hpre => Eq.mpr (vcWhF a b _) ?_
  have h : a.length + b.length ≤ 65536 := hpre _ rfl
  have hall : (a ++ b).length ≤ 65536 := by rw [List.length_append]; exact h
  rw [lineT_map fun x hx y hy => eqS_cls hall (List.mem_append.2 (.inl hx)) (List.mem_append.2 (.inr hy)), List.length_map, List.length_map]
  refine Rq.mk ?_ (Rq.mk ?_ (Rq.mk ⟨?_, ?_⟩ (Rq.mk ⟨?_, ?_⟩ (Rq.mk ⟨?_, ?_, ?_⟩ (qfin rfl rfl rfl rfl))))) <;> (unfold maxSl; omega)
theorem at20_sum : SumOK cx0 (LL Try.f78 [lsAt20]) Try.f78.ntmps (loopAt Try.f78 0).1 (loopAt Try.f78 0).2 lsAt20 := by
  intro vs bs K hs
  unfold lsAt20 at hs
  simp only at hs
  split at hs
  case h_2 => exact hs.elim
  rename_i i l m k
  obtain ⟨⟨rfl, rfl, hl⟩, h⟩ := hs
  rcases (show ∃ w : List Pr, w = l from ⟨_, rfl⟩) with ⟨l, rfl⟩
  refine sum_rec (σ := Nat) (fun k => [.int .i64 i, .ptr 0 0, .row .rpair l, .int .i64 l.length, .int .i64 (k : Nat)]) (fun _ => [.box [.int .i64 0, .int .i64 0, .bool false]])
    (fun k => k ≤ l.length ∧ atP l i = atP (l.drop k) i ∧ hasP l i = hasP (l.drop k) i) (fun k => l.length - k) ?_ 0 ⟨Nat.zero_le _, by rw [List.drop_zero], by rw [List.drop_zero]⟩
  rintro k ⟨hk, e1, e2⟩ R hR
  refine Eq.mpr (vcAt20B l i l.length k _) ⟨fun h1 => ?_, fun h1 => ?_⟩
  · have h1 : (k : Int) < (l.length : Int) := of_decide_eq_true h1
    have hka : k < l.length := by omega
    rw [List.drop_eq_getElem_cons hka] at e1 e2
    rw [atP] at e1
    have e2 : hasP l i = ((l[k].a == i) || hasP (l.drop (k + 1)) i) := e2
    rw [rd_rpair hka, wrap_succ hka hl]
    refine Rq.mk ⟨by omega, h1⟩ ⟨fun h2 => ?_, fun h2 => ?_⟩
    · rw [if_pos h2] at e1
      have := h.yes (by rw [e2, h2]; rfl)
      rw [e1] at this
      exact this
    · rw [if_neg (by rw [h2]; decide)] at e1
      exact hR (k + 1) ⟨hka, e1, by rw [e2, h2]; rfl⟩ (by omega)
  · have h1 : ¬ (k : Int) < (l.length : Int) := of_decide_eq_false h1
    rw [List.drop_of_length_le (by omega)] at e2
    exact h.no e2
theorem at20_holds : Holds 78 conAt20 := conP_holds fun l i => by
  refine fun_meets1 tok0 [] lsAt20 (by kernel_rfl) (by kernel_rfl) at20_sum fun hpre => Eq.mpr (vcAt20F l i _) ?_
  refine ⟨fun hl => Rq.mk ⟨rfl, rfl, hl⟩ ⟨fun h => qfin rfl rfl rfl rfl, fun h => qfin rfl ?_ rfl rfl⟩⟩
  rw [hasP_no h]
  rfl
end Go.Proofs.Ytmkjjopflncedaa.AX
end
section
namespace Go.Proofs.Ytmkjjopflncedaa.AXP
open Go Go.Proofs.Ytmkjjopflncedaa.AX
/-- Nodes that are taken out, put in: with the places as integers. -/
def delsI (a : List Nd) (way : List Int) (at_ n i : Int) : List Ed := delsE a way at_.toNat (n.toNat - i.toNat) i.toNat
def inssI (b : List Nd) (way : List Int) (n j : Int) : List Ed := inssE b way (n.toNat - j.toNat) j.toNat
/-- Pairs from places on, the last one the ends. -/
def genI (rec_ : List Nd → List Nd → List Int → List Ed) (a b : List Nd) (way : List Int) : List Pr → Int → Int → List Ed
  | [], _, _ => []
  | p :: ps, i, j => delsI a way j p.a i ++ inssI b way p.b j ++ (if p.whole = true then [] else alikeE rec_ (rd .node a p.a) (rd .node b p.b) (way ++ [p.b])) ++ genI rec_ a b way ps (p.a + 1) (p.b + 1)
/-- How many edits, or steps, there are at most. -/
def roomMx : Nat := 600000000000
/-- How much a script weighs at most. -/
def okSc (k : Nat) (a b : List Nd) (way : List Int) (out : List Ed) : Prop := dpNds a < k ∧ rngNds a ∧ rngNds b ∧ (keysS a).size ≤ maxSl ∧ (keysS b).size ≤ maxSl ∧ wtNds a ≤ wtMx ∧ wtNds b ≤ wtMx ∧ way.length + k ≤ roomMx ∧ out.length + 3 * (wtNds a + wtNds b) ≤ roomMx
end Go.Proofs.Ytmkjjopflncedaa.AXP
namespace Go.Proofs.Ytmkjjopflncedaa.AX
open Go AXP
def conCopied : Con := conP [.agg .node] fun (n : Nd) => { pre := some (wtNd n ≤ wtMx), res := .agg (nodeL n) }
noncomputable def cxCopied : Cx := cxT (tabLook [(36, conCopy)])
noncomputable def cxAdd : Cx := cxT (tabLook [(93, conCloneIts), (103, conCopied)])
def conAdd : Con := fun args hp => match args, hp with
  | [.ptr 0 0, .int .i64 what, x, .int .i64 at_, .agg cs], [.box [.own 1 0], .rowb 0 .edit out] => (rowOf .int x).bind fun way => (toNd (cs.take 6)).bind fun o => (toNd (cs.drop 6)).bind fun n =>
    some { pre := some ((out.length + 1) * 224 ≤ maxSl ∧ (way.length + 1) * 8 ≤ maxSl ∧ wtNd o ≤ wtMx ∧ wtNd n ≤ wtMx), res := .tup [], hp := [.box [.own 1 0], .rowb 0 .edit (out ++ [⟨what, way ++ [at_], o, n⟩])] }
  | _, _ => none
noncomputable def conLstLt (k : Nat) : Con := fun args hp => match args, hp with
  | [.ptr 0 0, x, y, z], [.box [.own 1 0], .rowb 0 .edit out] => (rowOf .node x).bind fun (a : List Nd) => (rowOf .node y).bind fun (b : List Nd) => (rowOf .int z).bind fun (way : List Int) =>
    some { pre := some (okSc k a b way out), res := .tup [], hp := [.box [.own 1 0], .rowb 0 .edit (out ++ scriptF k a b way)] }
  | _, _ => none
noncomputable def cxAlk (k : Nat) : Cx := cxT (tabLook [(93, conCloneIts), (73, conEqAts), (75, conAdd), (54, conLstLt k)])
noncomputable def conAlkLt (k : Nat) : Con := fun args hp => match args, hp with
  | [.ptr 0 0, .agg c1, .agg c2, z, .int .i64 at_], [.box [.own 1 0], .rowb 0 .edit out] => (toNd c1).bind fun x => (toNd c2).bind fun y => (rowOf .int z).bind fun (way : List Int) =>
    some { pre := some (okSc k x.kids y.kids (way ++ [at_]) (out ++ attE x y (way ++ [at_]) ++ txtE x y (way ++ [at_])) ∧ (out.length + 2) * 224 ≤ maxSl ∧ (way.length + 1) * 8 ≤ maxSl ∧ wtNd x ≤ wtMx ∧ wtNd y ≤ wtMx), res := .tup [], hp := [.box [.own 1 0], .rowb 0 .edit (out ++ alikeE (scriptF k) x y (way ++ [at_]))] }
  | _, _ => none
end Go.Proofs.Ytmkjjopflncedaa.AX
end
