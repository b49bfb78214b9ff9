/- What the code of this statement does, over values that stand for data: an executor of the model's code, that it is sound, and contracts of functions: part 6. No condition is added to the statement. -/
import Derived.Test.YtmkjjopflncedaaMO5
import Derived.ChangeArms
import Derived.SizedLaws
set_option linter.unusedVariables false
set_option linter.unusedSimpArgs false
section
namespace Go.Proofs.Ytmkjjopflncedaa.AXP
open Go Go.Proofs.Ytmkjjopflncedaa.AX
/-- The next place of b for a node; is there one? -/
def nxtJ (x : Nd) (b : List Nd) (to j : Int) : Option Nat := findJ (fun j => alN x (b.getD j default)) (to.toNat - j.toNat) j.toNat
def hasN2 (x : Nd) (b : List Nd) (to j : Int) : Bool := (nxtJ x b to j).isSome
def getN2 (x : Nd) (b : List Nd) (to j : Int) : Int := (((nxtJ x b to j).getD 0 : Nat) : Int)
def okR (k : Nat) (a b : List Nd) (way : List Int) : Prop := dpNds a < k ∧ wtNds a + wtNds b ≤ 60000 ∧ way.length + k ≤ 200000
end Go.Proofs.Ytmkjjopflncedaa.AXP
namespace Go.Proofs.Ytmkjjopflncedaa.AX
open Go AXP
noncomputable def cxL20 : Cx := cxT (tabLook [(77, conWh), (78, conAt20), (79, conAlk20)])
def lsL1 : LS where
  keep := [(1, .as), (5, .as), (6, .own .rpair), (7, .as), (18, .as), (19, .as), (20, .as)]
  left := [(6, .own .rpair)]
  sum := fun vs bs K => match vs, bs with
    | [.row .node b, .row .rpair wh, .own 0 0, .int .i64 fr, .row .node a, .int .i64 m, .int .i64 i], [.rowb 0 .rpair out] =>
      Rq (m = a.length ∧ i = 0 ∧ fr = 0 ∧ out.length = 0 ∧ wh = wholeS a b ∧ (a.length + b.length) * 24 ≤ maxSl) (K (.exit 0) [.own 0 0] [.rowb 0 .rpair (pairsS a b)])
    | _, _ => False
def lsL2 : LS where
  keep := [(1, .as), (5, .as), (6, .own .rpair), (7, .as), (8, .as), (9, .as), (11, .as), (18, .as), (19, .as), (20, .as), (40, .as), (41, .as), (42, .as)]
  left := [(1, .as), (5, .as), (6, .own .rpair), (7, .as), (8, .as), (9, .as), (11, .as), (18, .as), (19, .as), (20, .as)]
  sum := fun vs bs K => match vs, bs with
    | [.row .node b, .row .rpair wh, .own 0 0, .int .i64 fr, .int .i64 i', .ptr 1 0, .int .i64 to, .row .node a, .int .i64 m, .int .i64 i, .row .rpair wk, .int .i64 mk, .int .i64 k], [.rowb 0 .rpair out, .box [.int .i64 c0, .int .i64 c1, .str c2, .row .attr c3, .str c4, .row .node c5]] =>
      Rq (mk = wk.length ∧ k = 0 ∧ wk.length ≤ maxSl) (K (.exit 2) [.row .node b, .row .rpair wh, .own 0 0, .int .i64 fr, .int .i64 i', .ptr 1 0, .int .i64 (toP wk i' to), .row .node a, .int .i64 m, .int .i64 i] [.rowb 0 .rpair out, .box [.int .i64 c0, .int .i64 c1, .str c2, .row .attr c3, .str c4, .row .node c5]])
    | _, _ => False
def lsL3 : LS where
  keep := [(1, .as), (5, .as), (6, .own .rpair), (7, .as), (8, .as), (9, .as), (11, .as), (14, .as), (18, .as), (19, .as), (20, .as)]
  left := [(1, .as), (5, .as), (6, .own .rpair), (7, .as), (18, .as), (19, .as), (20, .as)]
  sum := fun vs bs K => match vs, bs with
    | [.row .node b, .row .rpair wh, .own 0 0, .int .i64 fr, .int .i64 i', .ptr 1 0, .int .i64 to, .int .i64 j, .row .node a, .int .i64 m, .int .i64 i], [.rowb 0 .rpair out, .box [.int .i64 c0, .int .i64 c1, .str c2, .row .attr c3, .str c4, .row .node c5]] =>
      Rq (0 ≤ j ∧ to ≤ b.length ∧ b.length ≤ maxSl ∧ (out.length + 1) * 24 ≤ maxSl)
        (Br (hasN2 ⟨c0, c1, c2, c3, c4, c5⟩ b to j)
          (K (.exit 4) [.row .node b, .row .rpair wh, .own 0 0, .int .i64 (getN2 ⟨c0, c1, c2, c3, c4, c5⟩ b to j + 1), .row .node a, .int .i64 m, .int .i64 i] [.rowb 0 .rpair (out ++ [⟨i', getN2 ⟨c0, c1, c2, c3, c4, c5⟩ b to j, false⟩])])
          (K (.exit 4) [.row .node b, .row .rpair wh, .own 0 0, .int .i64 fr, .row .node a, .int .i64 m, .int .i64 i] [.rowb 0 .rpair out]))
    | _, _ => False
def conL20 : Con := conP [.row .node, .row .node] fun (a b : List Nd) => { pre := some (a.length + b.length ≤ 65536), res := .row .rpair (pairsS a b) }
def conStep21 : Con := conP [.row .int, .int] fun (way : List Int) (n : Int) => { pre := some ((way.length + 1) * 8 ≤ maxSl), res := .own 0 0, extra := [.rowb 0 .int (way ++ [n])] }
noncomputable def conS21Lt (k : Nat) : Con := conP [.row .node, .row .node, .row .int] fun (a b : List Nd) (way : List Int) => { pre := some (okR k a b way), res := .own 0 0, extra := [.rowb 0 .redit (scriptF k a b way)] }
noncomputable def cxS21 (k : Nat) : Cx := cxT (tabLook [(55, conL20), (56, conStep21), (57, conAts), (29, conS21Lt k)])
def kpS1 : List (Tmp × Want) := [(0, .as), (1, .as), (2, .as), (7, .own .redit), (8, .as), (9, .as), (10, .as), (11, .as), (12, .as)]
def kpS2 : List (Tmp × Want) := [(0, .as), (1, .as), (2, .as), (7, .own .redit), (8, .as), (9, .as), (10, .as), (11, .as), (12, .as), (13, .as)]
noncomputable def lsS1 (k : Nat) : LS where
  keep := kpS1
  left := [(7, .own .redit)]
  sum := fun vs bs K => match vs, bs with
    | [.row .node a, .row .node b, .row .int way, .own 0 0, .int .i64 i, .int .i64 j, .int .i64 at_, .row .rpair ps, .int .i64 t], [.rowb 0 .redit out] =>
      Rq (t = 0 ∧ i = 0 ∧ j = 0 ∧ at_ = 0 ∧ out.length = 0 ∧ okR (k + 1) a b way ∧ ps = pairsS a b) (K (.exit 0) [.own 0 0] [.rowb 0 .redit (scriptF (k + 1) a b way)])
    | _, _ => False
def lsS2 : LS where
  keep := kpS2
  left := kpS2
  sum := fun vs bs K => match vs, bs with
    | [.row .node a, .row .node b, .row .int way, .own 0 0, .int .i64 i, .int .i64 j, .int .i64 at_, .row .rpair ps, .int .i64 t, .ptr 1 0], [.rowb 0 .redit out, .box [.int .i64 pa, .int .i64 pb, .bool pw]] =>
      Rq (0 ≤ i ∧ i ≤ pa ∧ pa ≤ a.length ∧ 0 ≤ at_ ∧ out.length + (pa.toNat - i.toNat) ≤ roomMx ∧ way.length + 1 ≤ roomMx ∧ wtNds a ≤ wtMx)
        (K (.exit 2) [.row .node a, .row .node b, .row .int way, .own 0 0, .int .i64 pa, .int .i64 j, .int .i64 at_, .row .rpair ps, .int .i64 t, .ptr 1 0] [.rowb 0 .redit (out ++ delsI a way at_ pa i), .box [.int .i64 pa, .int .i64 pb, .bool pw]])
    | _, _ => False
def lsS3 : LS where
  keep := kpS2
  left := kpS2
  sum := fun vs bs K => match vs, bs with
    | [.row .node a, .row .node b, .row .int way, .own 0 0, .int .i64 i, .int .i64 j, .int .i64 at_, .row .rpair ps, .int .i64 t, .ptr 1 0], [.rowb 0 .redit out, .box [.int .i64 pa, .int .i64 pb, .bool pw]] =>
      Rq (0 ≤ j ∧ at_ = j ∧ j ≤ pb ∧ pb ≤ b.length ∧ out.length + (pb.toNat - j.toNat) ≤ roomMx ∧ way.length + 1 ≤ roomMx ∧ wtNds b ≤ wtMx)
        (K (.exit 4) [.row .node a, .row .node b, .row .int way, .own 0 0, .int .i64 i, .int .i64 pb, .int .i64 pb, .row .rpair ps, .int .i64 t, .ptr 1 0] [.rowb 0 .redit (out ++ inssI b way pb j), .box [.int .i64 pa, .int .i64 pb, .bool pw]])
    | _, _ => False
noncomputable def lssS21 (k : Nat) : List LS := [lsS1 k, lsS2, lsS3]
noncomputable def conS21 : Con := conP [.row .node, .row .node, .row .int] fun (a b : List Nd) (way : List Int) => { pre := some (okR (dpNds a + 1) a b way), res := .own 0 0, extra := [.rowb 0 .redit (scriptS a b way)] }
end Go.Proofs.Ytmkjjopflncedaa.AX
end
section
namespace Go.Proofs.Ytmkjjopflncedaa.AX
open Go AXP
set_option maxRecDepth 100000
theorem vcL1 (a b : List Nd) (wh out : List Pr) (fr m i : Int) (K : Ex → List AV → List Blk → Prop) : (bodyA cxL20 (LL Try.f55 [lsL1, lsL2, lsL3]) Try.f55.ntmps (loopAt Try.f55 0).1 (loopAt Try.f55 0).2 lsL1.keep lsL1.left K [.row .node b, .row .rpair wh, .own 0 0, .int .i64 fr, .row .node a, .int .i64 m, .int .i64 i] [.rowb 0 .rpair out]) = (
Br (decide (i < m))
  (Rq ((0 : Int) ≤ i ∧ i < (↑a.length : Int))
    (Br (decide ((atP wh i).2 ≥ (0 : Int)))
      (Rq ((out.length + [Pr.mk (atP wh i).1 (atP wh i).2 (atP wh i).3].length) * (24 : Nat) ≤ maxSl)
        (K Ex.norm
          [AV.row Ty.node b, AV.row Ty.rpair wh, AV.own (0 : Nat) (0 : Nat),
            AV.int IntKind.i64 (IntKind.i64.wrap ((atP wh i).2 + (1 : Int))), AV.row Ty.node a, AV.int IntKind.i64 m,
            AV.int IntKind.i64 (IntKind.i64.wrap (i + (1 : Int)))]
          [Blk.rowb (0 : Nat) Ty.rpair (out ++ [Pr.mk (atP wh i).1 (atP wh i).2 (atP wh i).3])]))
      (Gv (b.length ≤ maxSl)
        (Gv (wh.length ≤ maxSl)
          (Rq ((↑wh.length : Int) = (↑wh.length : Int) ∧ (0 : Int) = (0 : Int) ∧ wh.length ≤ maxSl)
            (Rq
              ((0 : Int) ≤ fr ∧
                toP wh i (↑b.length : Int) ≤ (↑b.length : Int) ∧
                  b.length ≤ maxSl ∧ (out.length + (1 : Nat)) * (24 : Nat) ≤ maxSl)
              (Br
                (hasN2
                  (Nd.mk (rd Ty.node a i).1 (rd Ty.node a i).2 (rd Ty.node a i).3 (rd Ty.node a i).4 (rd Ty.node a i).5
                    (rd Ty.node a i).6)
                  b (toP wh i (↑b.length : Int)) fr)
                (K Ex.norm
                  [AV.row Ty.node b, AV.row Ty.rpair wh, AV.own (0 : Nat) (0 : Nat),
                    AV.int IntKind.i64
                      (getN2
                          (Nd.mk (rd Ty.node a i).1 (rd Ty.node a i).2 (rd Ty.node a i).3 (rd Ty.node a i).4
                            (rd Ty.node a i).5 (rd Ty.node a i).6)
                          b (toP wh i (↑b.length : Int)) fr +
                        (1 : Int)),
                    AV.row Ty.node a, AV.int IntKind.i64 m, AV.int IntKind.i64 (IntKind.i64.wrap (i + (1 : Int)))]
                  [Blk.rowb (0 : Nat) Ty.rpair
                      (out ++
                        [Pr.mk i
                            (getN2
                              (Nd.mk (rd Ty.node a i).1 (rd Ty.node a i).2 (rd Ty.node a i).3 (rd Ty.node a i).4
                                (rd Ty.node a i).5 (rd Ty.node a i).6)
                              b (toP wh i (↑b.length : Int)) fr)
                            false])])
                (K Ex.norm
                  [AV.row Ty.node b, AV.row Ty.rpair wh, AV.own (0 : Nat) (0 : Nat), AV.int IntKind.i64 fr,
                    AV.row Ty.node a, AV.int IntKind.i64 m, AV.int IntKind.i64 (IntKind.i64.wrap (i + (1 : Int)))]
                  [Blk.rowb (0 : Nat) Ty.rpair out]))))))))
  (K (Ex.exit (0 : Nat)) [AV.own (0 : Nat) (0 : Nat)] [Blk.rowb (0 : Nat) Ty.rpair out])) := by kernel_rfl
theorem vcL2 (a b : List Nd) (wh wk out : List Pr) (fr i' to m i mk k c0 c1 : Int) (c2 c4 : ByteArray) (c3 : List At) (c5 : List Nd) (K : Ex → List AV → List Blk → Prop) : (bodyA cxL20 (LL Try.f55 [lsL1, lsL2, lsL3]) Try.f55.ntmps (loopAt Try.f55 1).1 (loopAt Try.f55 1).2 lsL2.keep lsL2.left K [.row .node b, .row .rpair wh, .own 0 0, .int .i64 fr, .int .i64 i', .ptr 1 0, .int .i64 to, .row .node a, .int .i64 m, .int .i64 i, .row .rpair wk, .int .i64 mk, .int .i64 k] [.rowb 0 .rpair out, .box [.int .i64 c0, .int .i64 c1, .str c2, .row .attr c3, .str c4, .row .node c5]]) = (
Br (decide (k < mk))
  (Rq ((0 : Int) ≤ k ∧ k < (↑wk.length : Int))
    (Br (decide ((rd Ty.rpair wk k).1 > i'))
      (Br (decide ((rd Ty.rpair wk k).2 < to))
        (K Ex.norm
          [AV.row Ty.node b, AV.row Ty.rpair wh, AV.own (0 : Nat) (0 : Nat), AV.int IntKind.i64 fr,
            AV.int IntKind.i64 i', AV.ptr ((0 : Nat) + (1 : Nat)) (0 : Nat), AV.int IntKind.i64 (rd Ty.rpair wk k).2,
            AV.row Ty.node a, AV.int IntKind.i64 m, AV.int IntKind.i64 i, AV.row Ty.rpair wk, AV.int IntKind.i64 mk,
            AV.int IntKind.i64 (IntKind.i64.wrap (k + (1 : Int)))]
          [Blk.rowb (0 : Nat) Ty.rpair out,
            Blk.box
              [AV.int IntKind.i64 c0, AV.int IntKind.i64 c1, AV.str c2, AV.row Ty.attr c3, AV.str c4,
                AV.row Ty.node c5]])
        (K Ex.norm
          [AV.row Ty.node b, AV.row Ty.rpair wh, AV.own (0 : Nat) (0 : Nat), AV.int IntKind.i64 fr,
            AV.int IntKind.i64 i', AV.ptr ((0 : Nat) + (1 : Nat)) (0 : Nat), AV.int IntKind.i64 to, AV.row Ty.node a,
            AV.int IntKind.i64 m, AV.int IntKind.i64 i, AV.row Ty.rpair wk, AV.int IntKind.i64 mk,
            AV.int IntKind.i64 (IntKind.i64.wrap (k + (1 : Int)))]
          [Blk.rowb (0 : Nat) Ty.rpair out,
            Blk.box
              [AV.int IntKind.i64 c0, AV.int IntKind.i64 c1, AV.str c2, AV.row Ty.attr c3, AV.str c4,
                AV.row Ty.node c5]]))
      (K Ex.norm
        [AV.row Ty.node b, AV.row Ty.rpair wh, AV.own (0 : Nat) (0 : Nat), AV.int IntKind.i64 fr, AV.int IntKind.i64 i',
          AV.ptr ((0 : Nat) + (1 : Nat)) (0 : Nat), AV.int IntKind.i64 to, AV.row Ty.node a, AV.int IntKind.i64 m,
          AV.int IntKind.i64 i, AV.row Ty.rpair wk, AV.int IntKind.i64 mk,
          AV.int IntKind.i64 (IntKind.i64.wrap (k + (1 : Int)))]
        [Blk.rowb (0 : Nat) Ty.rpair out,
          Blk.box
            [AV.int IntKind.i64 c0, AV.int IntKind.i64 c1, AV.str c2, AV.row Ty.attr c3, AV.str c4,
              AV.row Ty.node c5]])))
  (K (Ex.exit (2 : Nat))
    [AV.row Ty.node b, AV.row Ty.rpair wh, AV.own (0 : Nat) (0 : Nat), AV.int IntKind.i64 fr, AV.int IntKind.i64 i',
      AV.ptr ((0 : Nat) + (1 : Nat)) (0 : Nat), AV.int IntKind.i64 to, AV.row Ty.node a, AV.int IntKind.i64 m,
      AV.int IntKind.i64 i]
    [Blk.rowb (0 : Nat) Ty.rpair out,
      Blk.box
        [AV.int IntKind.i64 c0, AV.int IntKind.i64 c1, AV.str c2, AV.row Ty.attr c3, AV.str c4, AV.row Ty.node c5]])) := by kernel_rfl
theorem vcL3 (a b : List Nd) (wh out : List Pr) (fr i' to j m i c0 c1 : Int) (c2 c4 : ByteArray) (c3 : List At) (c5 : List Nd) (K : Ex → List AV → List Blk → Prop) : (bodyA cxL20 (LL Try.f55 [lsL1, lsL2, lsL3]) Try.f55.ntmps (loopAt Try.f55 2).1 (loopAt Try.f55 2).2 lsL3.keep lsL3.left K [.row .node b, .row .rpair wh, .own 0 0, .int .i64 fr, .int .i64 i', .ptr 1 0, .int .i64 to, .int .i64 j, .row .node a, .int .i64 m, .int .i64 i] [.rowb 0 .rpair out, .box [.int .i64 c0, .int .i64 c1, .str c2, .row .attr c3, .str c4, .row .node c5]]) = (
Br (decide (j < to))
  (Rq ((0 : Int) ≤ j ∧ j < (↑b.length : Int))
    (Br
      (alN (Nd.mk c0 c1 c2 c3 c4 c5)
        (Nd.mk (rd Ty.node b j).1 (rd Ty.node b j).2 (rd Ty.node b j).3 (rd Ty.node b j).4 (rd Ty.node b j).5
          (rd Ty.node b j).6))
      (Rq ((out.length + [Pr.mk i' j false].length) * (24 : Nat) ≤ maxSl)
        (K (Ex.exit (4 : Nat))
          [AV.row Ty.node b, AV.row Ty.rpair wh, AV.own (0 : Nat) (0 : Nat),
            AV.int IntKind.i64 (IntKind.i64.wrap (j + (1 : Int))), AV.row Ty.node a, AV.int IntKind.i64 m,
            AV.int IntKind.i64 i]
          [Blk.rowb (0 : Nat) Ty.rpair (out ++ [Pr.mk i' j false])]))
      (K Ex.norm
        [AV.row Ty.node b, AV.row Ty.rpair wh, AV.own (0 : Nat) (0 : Nat), AV.int IntKind.i64 fr, AV.int IntKind.i64 i',
          AV.ptr ((0 : Nat) + (1 : Nat)) (0 : Nat), AV.int IntKind.i64 to,
          AV.int IntKind.i64 (IntKind.i64.wrap (j + (1 : Int))), AV.row Ty.node a, AV.int IntKind.i64 m,
          AV.int IntKind.i64 i]
        [Blk.rowb (0 : Nat) Ty.rpair out,
          Blk.box
            [AV.int IntKind.i64 c0, AV.int IntKind.i64 c1, AV.str c2, AV.row Ty.attr c3, AV.str c4,
              AV.row Ty.node c5]])))
  (K (Ex.exit (4 : Nat))
    [AV.row Ty.node b, AV.row Ty.rpair wh, AV.own (0 : Nat) (0 : Nat), AV.int IntKind.i64 fr, AV.row Ty.node a,
      AV.int IntKind.i64 m, AV.int IntKind.i64 i]
    [Blk.rowb (0 : Nat) Ty.rpair out])) := by kernel_rfl
theorem vcL20F (a b : List Nd) (Q : List AV → List Blk → List Blk → Prop) : (funA cxL20 (LL Try.f55 [lsL1, lsL2, lsL3]) Try.f55 [.row .node a, .row .node b] [] [.row .rpair] Q) = (
Rq (a.length + b.length ≤ (65536 : Nat))
  (Gv (a.length ≤ maxSl)
    (Rq
      ((↑a.length : Int) = (↑a.length : Int) ∧
        (0 : Int) = (0 : Int) ∧
          (0 : Int) = (0 : Int) ∧
            (0 : Nat) = (0 : Nat) ∧ wholeS a b = wholeS a b ∧ (a.length + b.length) * (24 : Nat) ≤ maxSl)
      (Q [AV.row Ty.rpair (pairsS a b)] [] [])))) := by kernel_rfl
theorem vcStep21F (way : List Int) (n : Int) (Q : List AV → List Blk → List Blk → Prop) : (funA cx0 (LL Try.f56 []) Try.f56 [.row .int way, .int .i64 n] [] [.own .int] Q) = (
Rq (way.length * (8 : Nat) ≤ maxSl)
  (Rq ((way.length + [n].length) * (8 : Nat) ≤ maxSl)
    (Q [AV.own (0 : Nat) (0 : Nat)] [] [Blk.rowb (0 : Nat) Ty.int (way ++ [n])]))) := by kernel_rfl
theorem vcS1 (k : Nat) (a b : List Nd) (way : List Int) (i j at_ t : Int) (ps : List Pr) (out : List Ed) (K : Ex → List AV → List Blk → Prop) : (bodyA (cxS21 k) (LL Try.f29 (lssS21 k)) Try.f29.ntmps (loopAt Try.f29 0).1 (loopAt Try.f29 0).2 (lsS1 k).keep (lsS1 k).left K [.row .node a, .row .node b, .row .int way, .own 0 0, .int .i64 i, .int .i64 j, .int .i64 at_, .row .rpair ps, .int .i64 t] [.rowb 0 .redit out]) = (
Gv (ps.length ≤ maxSl)
  (Br (decide (t ≤ (↑ps.length : Int)))
    (Gv (a.length ≤ maxSl)
      (Gv (b.length ≤ maxSl)
        (Gv (ps.length ≤ maxSl)
          (Br (decide (t < (↑ps.length : Int)))
            (Rq ((0 : Int) ≤ t ∧ t < (↑ps.length : Int))
              (Rq
                ((0 : Int) ≤ i ∧
                  i ≤ (rd Ty.rpair ps t).1 ∧
                    (rd Ty.rpair ps t).1 ≤ (↑a.length : Int) ∧
                      (0 : Int) ≤ at_ ∧
                        out.length + ((rd Ty.rpair ps t).1.toNat - i.toNat) ≤ roomMx ∧
                          way.length + (1 : Nat) ≤ roomMx ∧ wtNds a ≤ wtMx)
                (Rq
                  ((0 : Int) ≤ j ∧
                    at_ = j ∧
                      j ≤ (rd Ty.rpair ps t).2 ∧
                        (rd Ty.rpair ps t).2 ≤ (↑b.length : Int) ∧
                          (out ++ delsI a way at_ (rd Ty.rpair ps t).1 i).length +
                                ((rd Ty.rpair ps t).2.toNat - j.toNat) ≤
                              roomMx ∧
                            way.length + (1 : Nat) ≤ roomMx ∧ wtNds b ≤ wtMx)
                  (Br (!(rd Ty.rpair ps t).3)
                    (Rq ((0 : Int) ≤ (rd Ty.rpair ps t).1 ∧ (rd Ty.rpair ps t).1 < (↑a.length : Int))
                      (Rq ((0 : Int) ≤ (rd Ty.rpair ps t).2 ∧ (rd Ty.rpair ps t).2 < (↑b.length : Int))
                        (Br (!eql eqAt (rd Ty.node a (rd Ty.rpair ps t).1).4 (rd Ty.node b (rd Ty.rpair ps t).2).4)
                          (Rq ((way.length + (1 : Nat)) * (8 : Nat) ≤ maxSl)
                            (Rq
                              (((out ++ delsI a way at_ (rd Ty.rpair ps t).1 i ++
                                        inssI b way (rd Ty.rpair ps t).2 j).length +
                                    [Ed.mk (3 : Int) (way ++ [(rd Ty.rpair ps t).2])
                                          (Nd.mk (0 : Int) (0 : Int) (ByteArray.mk (Array.mk []))
                                            (rd Ty.node a (rd Ty.rpair ps t).1).4 (ByteArray.mk (Array.mk [])) [])
                                          (Nd.mk (0 : Int) (0 : Int) (ByteArray.mk (Array.mk []))
                                            (rd Ty.node b (rd Ty.rpair ps t).2).4 (ByteArray.mk (Array.mk []))
                                            [])].length) *
                                  (224 : Nat) ≤
                                maxSl)
                              (Br (!eqS (rd Ty.node a (rd Ty.rpair ps t).1).5 (rd Ty.node b (rd Ty.rpair ps t).2).5)
                                (Rq ((way.length + (1 : Nat)) * (8 : Nat) ≤ maxSl)
                                  (Rq
                                    (((out ++ delsI a way at_ (rd Ty.rpair ps t).1 i ++
                                                inssI b way (rd Ty.rpair ps t).2 j ++
                                              [Ed.mk (3 : Int) (way ++ [(rd Ty.rpair ps t).2])
                                                  (Nd.mk (0 : Int) (0 : Int) (ByteArray.mk (Array.mk []))
                                                    (rd Ty.node a (rd Ty.rpair ps t).1).4 (ByteArray.mk (Array.mk []))
                                                    [])
                                                  (Nd.mk (0 : Int) (0 : Int) (ByteArray.mk (Array.mk []))
                                                    (rd Ty.node b (rd Ty.rpair ps t).2).4 (ByteArray.mk (Array.mk []))
                                                    [])]).length +
                                          [Ed.mk (4 : Int) (way ++ [(rd Ty.rpair ps t).2])
                                                (Nd.mk (0 : Int) (0 : Int) (ByteArray.mk (Array.mk [])) []
                                                  (rd Ty.node a (rd Ty.rpair ps t).1).5 [])
                                                (Nd.mk (0 : Int) (0 : Int) (ByteArray.mk (Array.mk [])) []
                                                  (rd Ty.node b (rd Ty.rpair ps t).2).5 [])].length) *
                                        (224 : Nat) ≤
                                      maxSl)
                                    (Rq ((way.length + (1 : Nat)) * (8 : Nat) ≤ maxSl)
                                      (Rq
                                        (okR k (rd Ty.node a (rd Ty.rpair ps t).1).6
                                          (rd Ty.node b (rd Ty.rpair ps t).2).6 (way ++ [(rd Ty.rpair ps t).2]))
                                        (Rq
                                          (((out ++ delsI a way at_ (rd Ty.rpair ps t).1 i ++
                                                        inssI b way (rd Ty.rpair ps t).2 j ++
                                                      [Ed.mk (3 : Int) (way ++ [(rd Ty.rpair ps t).2])
                                                          (Nd.mk (0 : Int) (0 : Int) (ByteArray.mk (Array.mk []))
                                                            (rd Ty.node a (rd Ty.rpair ps t).1).4
                                                            (ByteArray.mk (Array.mk [])) [])
                                                          (Nd.mk (0 : Int) (0 : Int) (ByteArray.mk (Array.mk []))
                                                            (rd Ty.node b (rd Ty.rpair ps t).2).4
                                                            (ByteArray.mk (Array.mk [])) [])] ++
                                                    [Ed.mk (4 : Int) (way ++ [(rd Ty.rpair ps t).2])
                                                        (Nd.mk (0 : Int) (0 : Int) (ByteArray.mk (Array.mk [])) []
                                                          (rd Ty.node a (rd Ty.rpair ps t).1).5 [])
                                                        (Nd.mk (0 : Int) (0 : Int) (ByteArray.mk (Array.mk [])) []
                                                          (rd Ty.node b (rd Ty.rpair ps t).2).5 [])]).length +
                                                (scriptF k (rd Ty.node a (rd Ty.rpair ps t).1).6
                                                    (rd Ty.node b (rd Ty.rpair ps t).2).6
                                                    (way ++ [(rd Ty.rpair ps t).2])).length) *
                                              (224 : Nat) ≤
                                            maxSl)
                                          (K Ex.norm
                                            [AV.row Ty.node a, AV.row Ty.node b, AV.row Ty.int way,
                                              AV.own (0 : Nat) (0 : Nat),
                                              AV.int IntKind.i64 (IntKind.i64.wrap ((rd Ty.rpair ps t).1 + (1 : Int))),
                                              AV.int IntKind.i64 (IntKind.i64.wrap ((rd Ty.rpair ps t).2 + (1 : Int))),
                                              AV.int IntKind.i64 (IntKind.i64.wrap ((rd Ty.rpair ps t).2 + (1 : Int))),
                                              AV.row Ty.rpair ps, AV.int IntKind.i64 (IntKind.i64.wrap (t + (1 : Int)))]
                                            [Blk.rowb (0 : Nat) Ty.redit
                                                (out ++ delsI a way at_ (rd Ty.rpair ps t).1 i ++
                                                        inssI b way (rd Ty.rpair ps t).2 j ++
                                                      [Ed.mk (3 : Int) (way ++ [(rd Ty.rpair ps t).2])
                                                          (Nd.mk (0 : Int) (0 : Int) (ByteArray.mk (Array.mk []))
                                                            (rd Ty.node a (rd Ty.rpair ps t).1).4
                                                            (ByteArray.mk (Array.mk [])) [])
                                                          (Nd.mk (0 : Int) (0 : Int) (ByteArray.mk (Array.mk []))
                                                            (rd Ty.node b (rd Ty.rpair ps t).2).4
                                                            (ByteArray.mk (Array.mk [])) [])] ++
                                                    [Ed.mk (4 : Int) (way ++ [(rd Ty.rpair ps t).2])
                                                        (Nd.mk (0 : Int) (0 : Int) (ByteArray.mk (Array.mk [])) []
                                                          (rd Ty.node a (rd Ty.rpair ps t).1).5 [])
                                                        (Nd.mk (0 : Int) (0 : Int) (ByteArray.mk (Array.mk [])) []
                                                          (rd Ty.node b (rd Ty.rpair ps t).2).5 [])] ++
                                                  scriptF k (rd Ty.node a (rd Ty.rpair ps t).1).6
                                                    (rd Ty.node b (rd Ty.rpair ps t).2).6
                                                    (way ++ [(rd Ty.rpair ps t).2]))]))))))
                                (Rq ((way.length + (1 : Nat)) * (8 : Nat) ≤ maxSl)
                                  (Rq
                                    (okR k (rd Ty.node a (rd Ty.rpair ps t).1).6 (rd Ty.node b (rd Ty.rpair ps t).2).6
                                      (way ++ [(rd Ty.rpair ps t).2]))
                                    (Rq
                                      (((out ++ delsI a way at_ (rd Ty.rpair ps t).1 i ++
                                                  inssI b way (rd Ty.rpair ps t).2 j ++
                                                [Ed.mk (3 : Int) (way ++ [(rd Ty.rpair ps t).2])
                                                    (Nd.mk (0 : Int) (0 : Int) (ByteArray.mk (Array.mk []))
                                                      (rd Ty.node a (rd Ty.rpair ps t).1).4 (ByteArray.mk (Array.mk []))
                                                      [])
                                                    (Nd.mk (0 : Int) (0 : Int) (ByteArray.mk (Array.mk []))
                                                      (rd Ty.node b (rd Ty.rpair ps t).2).4 (ByteArray.mk (Array.mk []))
                                                      [])]).length +
                                            (scriptF k (rd Ty.node a (rd Ty.rpair ps t).1).6
                                                (rd Ty.node b (rd Ty.rpair ps t).2).6
                                                (way ++ [(rd Ty.rpair ps t).2])).length) *
                                          (224 : Nat) ≤
                                        maxSl)
                                      (K Ex.norm
                                        [AV.row Ty.node a, AV.row Ty.node b, AV.row Ty.int way,
                                          AV.own (0 : Nat) (0 : Nat),
                                          AV.int IntKind.i64 (IntKind.i64.wrap ((rd Ty.rpair ps t).1 + (1 : Int))),
                                          AV.int IntKind.i64 (IntKind.i64.wrap ((rd Ty.rpair ps t).2 + (1 : Int))),
                                          AV.int IntKind.i64 (IntKind.i64.wrap ((rd Ty.rpair ps t).2 + (1 : Int))),
                                          AV.row Ty.rpair ps, AV.int IntKind.i64 (IntKind.i64.wrap (t + (1 : Int)))]
                                        [Blk.rowb (0 : Nat) Ty.redit
                                            (out ++ delsI a way at_ (rd Ty.rpair ps t).1 i ++
                                                  inssI b way (rd Ty.rpair ps t).2 j ++
                                                [Ed.mk (3 : Int) (way ++ [(rd Ty.rpair ps t).2])
                                                    (Nd.mk (0 : Int) (0 : Int) (ByteArray.mk (Array.mk []))
                                                      (rd Ty.node a (rd Ty.rpair ps t).1).4 (ByteArray.mk (Array.mk []))
                                                      [])
                                                    (Nd.mk (0 : Int) (0 : Int) (ByteArray.mk (Array.mk []))
                                                      (rd Ty.node b (rd Ty.rpair ps t).2).4 (ByteArray.mk (Array.mk []))
                                                      [])] ++
                                              scriptF k (rd Ty.node a (rd Ty.rpair ps t).1).6
                                                (rd Ty.node b (rd Ty.rpair ps t).2).6
                                                (way ++ [(rd Ty.rpair ps t).2]))])))))))
                          (Br (!eqS (rd Ty.node a (rd Ty.rpair ps t).1).5 (rd Ty.node b (rd Ty.rpair ps t).2).5)
                            (Rq ((way.length + (1 : Nat)) * (8 : Nat) ≤ maxSl)
                              (Rq
                                (((out ++ delsI a way at_ (rd Ty.rpair ps t).1 i ++
                                          inssI b way (rd Ty.rpair ps t).2 j).length +
                                      [Ed.mk (4 : Int) (way ++ [(rd Ty.rpair ps t).2])
                                            (Nd.mk (0 : Int) (0 : Int) (ByteArray.mk (Array.mk [])) []
                                              (rd Ty.node a (rd Ty.rpair ps t).1).5 [])
                                            (Nd.mk (0 : Int) (0 : Int) (ByteArray.mk (Array.mk [])) []
                                              (rd Ty.node b (rd Ty.rpair ps t).2).5 [])].length) *
                                    (224 : Nat) ≤
                                  maxSl)
                                (Rq ((way.length + (1 : Nat)) * (8 : Nat) ≤ maxSl)
                                  (Rq
                                    (okR k (rd Ty.node a (rd Ty.rpair ps t).1).6 (rd Ty.node b (rd Ty.rpair ps t).2).6
                                      (way ++ [(rd Ty.rpair ps t).2]))
                                    (Rq
                                      (((out ++ delsI a way at_ (rd Ty.rpair ps t).1 i ++
                                                  inssI b way (rd Ty.rpair ps t).2 j ++
                                                [Ed.mk (4 : Int) (way ++ [(rd Ty.rpair ps t).2])
                                                    (Nd.mk (0 : Int) (0 : Int) (ByteArray.mk (Array.mk [])) []
                                                      (rd Ty.node a (rd Ty.rpair ps t).1).5 [])
                                                    (Nd.mk (0 : Int) (0 : Int) (ByteArray.mk (Array.mk [])) []
                                                      (rd Ty.node b (rd Ty.rpair ps t).2).5 [])]).length +
                                            (scriptF k (rd Ty.node a (rd Ty.rpair ps t).1).6
                                                (rd Ty.node b (rd Ty.rpair ps t).2).6
                                                (way ++ [(rd Ty.rpair ps t).2])).length) *
                                          (224 : Nat) ≤
                                        maxSl)
                                      (K Ex.norm
                                        [AV.row Ty.node a, AV.row Ty.node b, AV.row Ty.int way,
                                          AV.own (0 : Nat) (0 : Nat),
                                          AV.int IntKind.i64 (IntKind.i64.wrap ((rd Ty.rpair ps t).1 + (1 : Int))),
                                          AV.int IntKind.i64 (IntKind.i64.wrap ((rd Ty.rpair ps t).2 + (1 : Int))),
                                          AV.int IntKind.i64 (IntKind.i64.wrap ((rd Ty.rpair ps t).2 + (1 : Int))),
                                          AV.row Ty.rpair ps, AV.int IntKind.i64 (IntKind.i64.wrap (t + (1 : Int)))]
                                        [Blk.rowb (0 : Nat) Ty.redit
                                            (out ++ delsI a way at_ (rd Ty.rpair ps t).1 i ++
                                                  inssI b way (rd Ty.rpair ps t).2 j ++
                                                [Ed.mk (4 : Int) (way ++ [(rd Ty.rpair ps t).2])
                                                    (Nd.mk (0 : Int) (0 : Int) (ByteArray.mk (Array.mk [])) []
                                                      (rd Ty.node a (rd Ty.rpair ps t).1).5 [])
                                                    (Nd.mk (0 : Int) (0 : Int) (ByteArray.mk (Array.mk [])) []
                                                      (rd Ty.node b (rd Ty.rpair ps t).2).5 [])] ++
                                              scriptF k (rd Ty.node a (rd Ty.rpair ps t).1).6
                                                (rd Ty.node b (rd Ty.rpair ps t).2).6
                                                (way ++ [(rd Ty.rpair ps t).2]))]))))))
                            (Rq ((way.length + (1 : Nat)) * (8 : Nat) ≤ maxSl)
                              (Rq
                                (okR k (rd Ty.node a (rd Ty.rpair ps t).1).6 (rd Ty.node b (rd Ty.rpair ps t).2).6
                                  (way ++ [(rd Ty.rpair ps t).2]))
                                (Rq
                                  (((out ++ delsI a way at_ (rd Ty.rpair ps t).1 i ++
                                            inssI b way (rd Ty.rpair ps t).2 j).length +
                                        (scriptF k (rd Ty.node a (rd Ty.rpair ps t).1).6
                                            (rd Ty.node b (rd Ty.rpair ps t).2).6
                                            (way ++ [(rd Ty.rpair ps t).2])).length) *
                                      (224 : Nat) ≤
                                    maxSl)
                                  (K Ex.norm
                                    [AV.row Ty.node a, AV.row Ty.node b, AV.row Ty.int way, AV.own (0 : Nat) (0 : Nat),
                                      AV.int IntKind.i64 (IntKind.i64.wrap ((rd Ty.rpair ps t).1 + (1 : Int))),
                                      AV.int IntKind.i64 (IntKind.i64.wrap ((rd Ty.rpair ps t).2 + (1 : Int))),
                                      AV.int IntKind.i64 (IntKind.i64.wrap ((rd Ty.rpair ps t).2 + (1 : Int))),
                                      AV.row Ty.rpair ps, AV.int IntKind.i64 (IntKind.i64.wrap (t + (1 : Int)))]
                                    [Blk.rowb (0 : Nat) Ty.redit
                                        (out ++ delsI a way at_ (rd Ty.rpair ps t).1 i ++
                                            inssI b way (rd Ty.rpair ps t).2 j ++
                                          scriptF k (rd Ty.node a (rd Ty.rpair ps t).1).6
                                            (rd Ty.node b (rd Ty.rpair ps t).2).6
                                            (way ++ [(rd Ty.rpair ps t).2]))]))))))))
                    (K Ex.norm
                      [AV.row Ty.node a, AV.row Ty.node b, AV.row Ty.int way, AV.own (0 : Nat) (0 : Nat),
                        AV.int IntKind.i64 (IntKind.i64.wrap ((rd Ty.rpair ps t).1 + (1 : Int))),
                        AV.int IntKind.i64 (IntKind.i64.wrap ((rd Ty.rpair ps t).2 + (1 : Int))),
                        AV.int IntKind.i64 (IntKind.i64.wrap ((rd Ty.rpair ps t).2 + (1 : Int))), AV.row Ty.rpair ps,
                        AV.int IntKind.i64 (IntKind.i64.wrap (t + (1 : Int)))]
                      [Blk.rowb (0 : Nat) Ty.redit
                          (out ++ delsI a way at_ (rd Ty.rpair ps t).1 i ++ inssI b way (rd Ty.rpair ps t).2 j)])))))
            (Rq
              ((0 : Int) ≤ i ∧
                i ≤ (↑a.length : Int) ∧
                  (↑a.length : Int) ≤ (↑a.length : Int) ∧
                    (0 : Int) ≤ at_ ∧
                      out.length + ((↑a.length : Int).toNat - i.toNat) ≤ roomMx ∧
                        way.length + (1 : Nat) ≤ roomMx ∧ wtNds a ≤ wtMx)
              (Rq
                ((0 : Int) ≤ j ∧
                  at_ = j ∧
                    j ≤ (↑b.length : Int) ∧
                      (↑b.length : Int) ≤ (↑b.length : Int) ∧
                        (out ++ delsI a way at_ (↑a.length : Int) i).length + ((↑b.length : Int).toNat - j.toNat) ≤
                            roomMx ∧
                          way.length + (1 : Nat) ≤ roomMx ∧ wtNds b ≤ wtMx)
                (Br false
                  (Rq ((0 : Int) ≤ (↑a.length : Int) ∧ (↑a.length : Int) < (↑a.length : Int))
                    (Rq ((0 : Int) ≤ (↑b.length : Int) ∧ (↑b.length : Int) < (↑b.length : Int))
                      (Br (!eql eqAt (rd Ty.node a (↑a.length : Int)).4 (rd Ty.node b (↑b.length : Int)).4)
                        (Rq ((way.length + (1 : Nat)) * (8 : Nat) ≤ maxSl)
                          (Rq
                            (((out ++ delsI a way at_ (↑a.length : Int) i ++ inssI b way (↑b.length : Int) j).length +
                                  [Ed.mk (3 : Int) (way ++ [(↑b.length : Int)])
                                        (Nd.mk (0 : Int) (0 : Int) (ByteArray.mk (Array.mk []))
                                          (rd Ty.node a (↑a.length : Int)).4 (ByteArray.mk (Array.mk [])) [])
                                        (Nd.mk (0 : Int) (0 : Int) (ByteArray.mk (Array.mk []))
                                          (rd Ty.node b (↑b.length : Int)).4 (ByteArray.mk (Array.mk [])) [])].length) *
                                (224 : Nat) ≤
                              maxSl)
                            (Br (!eqS (rd Ty.node a (↑a.length : Int)).5 (rd Ty.node b (↑b.length : Int)).5)
                              (Rq ((way.length + (1 : Nat)) * (8 : Nat) ≤ maxSl)
                                (Rq
                                  (((out ++ delsI a way at_ (↑a.length : Int) i ++ inssI b way (↑b.length : Int) j ++
                                            [Ed.mk (3 : Int) (way ++ [(↑b.length : Int)])
                                                (Nd.mk (0 : Int) (0 : Int) (ByteArray.mk (Array.mk []))
                                                  (rd Ty.node a (↑a.length : Int)).4 (ByteArray.mk (Array.mk [])) [])
                                                (Nd.mk (0 : Int) (0 : Int) (ByteArray.mk (Array.mk []))
                                                  (rd Ty.node b (↑b.length : Int)).4 (ByteArray.mk (Array.mk []))
                                                  [])]).length +
                                        [Ed.mk (4 : Int) (way ++ [(↑b.length : Int)])
                                              (Nd.mk (0 : Int) (0 : Int) (ByteArray.mk (Array.mk [])) []
                                                (rd Ty.node a (↑a.length : Int)).5 [])
                                              (Nd.mk (0 : Int) (0 : Int) (ByteArray.mk (Array.mk [])) []
                                                (rd Ty.node b (↑b.length : Int)).5 [])].length) *
                                      (224 : Nat) ≤
                                    maxSl)
                                  (Rq ((way.length + (1 : Nat)) * (8 : Nat) ≤ maxSl)
                                    (Rq
                                      (okR k (rd Ty.node a (↑a.length : Int)).6 (rd Ty.node b (↑b.length : Int)).6
                                        (way ++ [(↑b.length : Int)]))
                                      (Rq
                                        (((out ++ delsI a way at_ (↑a.length : Int) i ++
                                                      inssI b way (↑b.length : Int) j ++
                                                    [Ed.mk (3 : Int) (way ++ [(↑b.length : Int)])
                                                        (Nd.mk (0 : Int) (0 : Int) (ByteArray.mk (Array.mk []))
                                                          (rd Ty.node a (↑a.length : Int)).4
                                                          (ByteArray.mk (Array.mk [])) [])
                                                        (Nd.mk (0 : Int) (0 : Int) (ByteArray.mk (Array.mk []))
                                                          (rd Ty.node b (↑b.length : Int)).4
                                                          (ByteArray.mk (Array.mk [])) [])] ++
                                                  [Ed.mk (4 : Int) (way ++ [(↑b.length : Int)])
                                                      (Nd.mk (0 : Int) (0 : Int) (ByteArray.mk (Array.mk [])) []
                                                        (rd Ty.node a (↑a.length : Int)).5 [])
                                                      (Nd.mk (0 : Int) (0 : Int) (ByteArray.mk (Array.mk [])) []
                                                        (rd Ty.node b (↑b.length : Int)).5 [])]).length +
                                              (scriptF k (rd Ty.node a (↑a.length : Int)).6
                                                  (rd Ty.node b (↑b.length : Int)).6
                                                  (way ++ [(↑b.length : Int)])).length) *
                                            (224 : Nat) ≤
                                          maxSl)
                                        (K Ex.norm
                                          [AV.row Ty.node a, AV.row Ty.node b, AV.row Ty.int way,
                                            AV.own (0 : Nat) (0 : Nat),
                                            AV.int IntKind.i64 (IntKind.i64.wrap ((↑a.length : Int) + (1 : Int))),
                                            AV.int IntKind.i64 (IntKind.i64.wrap ((↑b.length : Int) + (1 : Int))),
                                            AV.int IntKind.i64 (IntKind.i64.wrap ((↑b.length : Int) + (1 : Int))),
                                            AV.row Ty.rpair ps, AV.int IntKind.i64 (IntKind.i64.wrap (t + (1 : Int)))]
                                          [Blk.rowb (0 : Nat) Ty.redit
                                              (out ++ delsI a way at_ (↑a.length : Int) i ++
                                                      inssI b way (↑b.length : Int) j ++
                                                    [Ed.mk (3 : Int) (way ++ [(↑b.length : Int)])
                                                        (Nd.mk (0 : Int) (0 : Int) (ByteArray.mk (Array.mk []))
                                                          (rd Ty.node a (↑a.length : Int)).4
                                                          (ByteArray.mk (Array.mk [])) [])
                                                        (Nd.mk (0 : Int) (0 : Int) (ByteArray.mk (Array.mk []))
                                                          (rd Ty.node b (↑b.length : Int)).4
                                                          (ByteArray.mk (Array.mk [])) [])] ++
                                                  [Ed.mk (4 : Int) (way ++ [(↑b.length : Int)])
                                                      (Nd.mk (0 : Int) (0 : Int) (ByteArray.mk (Array.mk [])) []
                                                        (rd Ty.node a (↑a.length : Int)).5 [])
                                                      (Nd.mk (0 : Int) (0 : Int) (ByteArray.mk (Array.mk [])) []
                                                        (rd Ty.node b (↑b.length : Int)).5 [])] ++
                                                scriptF k (rd Ty.node a (↑a.length : Int)).6
                                                  (rd Ty.node b (↑b.length : Int)).6
                                                  (way ++ [(↑b.length : Int)]))]))))))
                              (Rq ((way.length + (1 : Nat)) * (8 : Nat) ≤ maxSl)
                                (Rq
                                  (okR k (rd Ty.node a (↑a.length : Int)).6 (rd Ty.node b (↑b.length : Int)).6
                                    (way ++ [(↑b.length : Int)]))
                                  (Rq
                                    (((out ++ delsI a way at_ (↑a.length : Int) i ++ inssI b way (↑b.length : Int) j ++
                                              [Ed.mk (3 : Int) (way ++ [(↑b.length : Int)])
                                                  (Nd.mk (0 : Int) (0 : Int) (ByteArray.mk (Array.mk []))
                                                    (rd Ty.node a (↑a.length : Int)).4 (ByteArray.mk (Array.mk [])) [])
                                                  (Nd.mk (0 : Int) (0 : Int) (ByteArray.mk (Array.mk []))
                                                    (rd Ty.node b (↑b.length : Int)).4 (ByteArray.mk (Array.mk []))
                                                    [])]).length +
                                          (scriptF k (rd Ty.node a (↑a.length : Int)).6
                                              (rd Ty.node b (↑b.length : Int)).6 (way ++ [(↑b.length : Int)])).length) *
                                        (224 : Nat) ≤
                                      maxSl)
                                    (K Ex.norm
                                      [AV.row Ty.node a, AV.row Ty.node b, AV.row Ty.int way,
                                        AV.own (0 : Nat) (0 : Nat),
                                        AV.int IntKind.i64 (IntKind.i64.wrap ((↑a.length : Int) + (1 : Int))),
                                        AV.int IntKind.i64 (IntKind.i64.wrap ((↑b.length : Int) + (1 : Int))),
                                        AV.int IntKind.i64 (IntKind.i64.wrap ((↑b.length : Int) + (1 : Int))),
                                        AV.row Ty.rpair ps, AV.int IntKind.i64 (IntKind.i64.wrap (t + (1 : Int)))]
                                      [Blk.rowb (0 : Nat) Ty.redit
                                          (out ++ delsI a way at_ (↑a.length : Int) i ++
                                                inssI b way (↑b.length : Int) j ++
                                              [Ed.mk (3 : Int) (way ++ [(↑b.length : Int)])
                                                  (Nd.mk (0 : Int) (0 : Int) (ByteArray.mk (Array.mk []))
                                                    (rd Ty.node a (↑a.length : Int)).4 (ByteArray.mk (Array.mk [])) [])
                                                  (Nd.mk (0 : Int) (0 : Int) (ByteArray.mk (Array.mk []))
                                                    (rd Ty.node b (↑b.length : Int)).4 (ByteArray.mk (Array.mk []))
                                                    [])] ++
                                            scriptF k (rd Ty.node a (↑a.length : Int)).6
                                              (rd Ty.node b (↑b.length : Int)).6 (way ++ [(↑b.length : Int)]))])))))))
                        (Br (!eqS (rd Ty.node a (↑a.length : Int)).5 (rd Ty.node b (↑b.length : Int)).5)
                          (Rq ((way.length + (1 : Nat)) * (8 : Nat) ≤ maxSl)
                            (Rq
                              (((out ++ delsI a way at_ (↑a.length : Int) i ++ inssI b way (↑b.length : Int) j).length +
                                    [Ed.mk (4 : Int) (way ++ [(↑b.length : Int)])
                                          (Nd.mk (0 : Int) (0 : Int) (ByteArray.mk (Array.mk [])) []
                                            (rd Ty.node a (↑a.length : Int)).5 [])
                                          (Nd.mk (0 : Int) (0 : Int) (ByteArray.mk (Array.mk [])) []
                                            (rd Ty.node b (↑b.length : Int)).5 [])].length) *
                                  (224 : Nat) ≤
                                maxSl)
                              (Rq ((way.length + (1 : Nat)) * (8 : Nat) ≤ maxSl)
                                (Rq
                                  (okR k (rd Ty.node a (↑a.length : Int)).6 (rd Ty.node b (↑b.length : Int)).6
                                    (way ++ [(↑b.length : Int)]))
                                  (Rq
                                    (((out ++ delsI a way at_ (↑a.length : Int) i ++ inssI b way (↑b.length : Int) j ++
                                              [Ed.mk (4 : Int) (way ++ [(↑b.length : Int)])
                                                  (Nd.mk (0 : Int) (0 : Int) (ByteArray.mk (Array.mk [])) []
                                                    (rd Ty.node a (↑a.length : Int)).5 [])
                                                  (Nd.mk (0 : Int) (0 : Int) (ByteArray.mk (Array.mk [])) []
                                                    (rd Ty.node b (↑b.length : Int)).5 [])]).length +
                                          (scriptF k (rd Ty.node a (↑a.length : Int)).6
                                              (rd Ty.node b (↑b.length : Int)).6 (way ++ [(↑b.length : Int)])).length) *
                                        (224 : Nat) ≤
                                      maxSl)
                                    (K Ex.norm
                                      [AV.row Ty.node a, AV.row Ty.node b, AV.row Ty.int way,
                                        AV.own (0 : Nat) (0 : Nat),
                                        AV.int IntKind.i64 (IntKind.i64.wrap ((↑a.length : Int) + (1 : Int))),
                                        AV.int IntKind.i64 (IntKind.i64.wrap ((↑b.length : Int) + (1 : Int))),
                                        AV.int IntKind.i64 (IntKind.i64.wrap ((↑b.length : Int) + (1 : Int))),
                                        AV.row Ty.rpair ps, AV.int IntKind.i64 (IntKind.i64.wrap (t + (1 : Int)))]
                                      [Blk.rowb (0 : Nat) Ty.redit
                                          (out ++ delsI a way at_ (↑a.length : Int) i ++
                                                inssI b way (↑b.length : Int) j ++
                                              [Ed.mk (4 : Int) (way ++ [(↑b.length : Int)])
                                                  (Nd.mk (0 : Int) (0 : Int) (ByteArray.mk (Array.mk [])) []
                                                    (rd Ty.node a (↑a.length : Int)).5 [])
                                                  (Nd.mk (0 : Int) (0 : Int) (ByteArray.mk (Array.mk [])) []
                                                    (rd Ty.node b (↑b.length : Int)).5 [])] ++
                                            scriptF k (rd Ty.node a (↑a.length : Int)).6
                                              (rd Ty.node b (↑b.length : Int)).6 (way ++ [(↑b.length : Int)]))]))))))
                          (Rq ((way.length + (1 : Nat)) * (8 : Nat) ≤ maxSl)
                            (Rq
                              (okR k (rd Ty.node a (↑a.length : Int)).6 (rd Ty.node b (↑b.length : Int)).6
                                (way ++ [(↑b.length : Int)]))
                              (Rq
                                (((out ++ delsI a way at_ (↑a.length : Int) i ++
                                          inssI b way (↑b.length : Int) j).length +
                                      (scriptF k (rd Ty.node a (↑a.length : Int)).6 (rd Ty.node b (↑b.length : Int)).6
                                          (way ++ [(↑b.length : Int)])).length) *
                                    (224 : Nat) ≤
                                  maxSl)
                                (K Ex.norm
                                  [AV.row Ty.node a, AV.row Ty.node b, AV.row Ty.int way, AV.own (0 : Nat) (0 : Nat),
                                    AV.int IntKind.i64 (IntKind.i64.wrap ((↑a.length : Int) + (1 : Int))),
                                    AV.int IntKind.i64 (IntKind.i64.wrap ((↑b.length : Int) + (1 : Int))),
                                    AV.int IntKind.i64 (IntKind.i64.wrap ((↑b.length : Int) + (1 : Int))),
                                    AV.row Ty.rpair ps, AV.int IntKind.i64 (IntKind.i64.wrap (t + (1 : Int)))]
                                  [Blk.rowb (0 : Nat) Ty.redit
                                      (out ++ delsI a way at_ (↑a.length : Int) i ++ inssI b way (↑b.length : Int) j ++
                                        scriptF k (rd Ty.node a (↑a.length : Int)).6 (rd Ty.node b (↑b.length : Int)).6
                                          (way ++ [(↑b.length : Int)]))]))))))))
                  (K Ex.norm
                    [AV.row Ty.node a, AV.row Ty.node b, AV.row Ty.int way, AV.own (0 : Nat) (0 : Nat),
                      AV.int IntKind.i64 (IntKind.i64.wrap ((↑a.length : Int) + (1 : Int))),
                      AV.int IntKind.i64 (IntKind.i64.wrap ((↑b.length : Int) + (1 : Int))),
                      AV.int IntKind.i64 (IntKind.i64.wrap ((↑b.length : Int) + (1 : Int))), AV.row Ty.rpair ps,
                      AV.int IntKind.i64 (IntKind.i64.wrap (t + (1 : Int)))]
                    [Blk.rowb (0 : Nat) Ty.redit
                        (out ++ delsI a way at_ (↑a.length : Int) i ++ inssI b way (↑b.length : Int) j)]))))))))
    (K (Ex.exit (0 : Nat)) [AV.own (0 : Nat) (0 : Nat)] [Blk.rowb (0 : Nat) Ty.redit out]))) := by kernel_rfl
theorem vcS2 (k : Nat) (a b : List Nd) (way : List Int) (i j at_ t pa pb : Int) (pw : Bool) (ps : List Pr) (out : List Ed) (K : Ex → List AV → List Blk → Prop) : (bodyA (cxS21 k) (LL Try.f29 (lssS21 k)) Try.f29.ntmps (loopAt Try.f29 1).1 (loopAt Try.f29 1).2 lsS2.keep lsS2.left K [.row .node a, .row .node b, .row .int way, .own 0 0, .int .i64 i, .int .i64 j, .int .i64 at_, .row .rpair ps, .int .i64 t, .ptr 1 0] [.rowb 0 .redit out, .box [.int .i64 pa, .int .i64 pb, .bool pw]]) = (
Br (decide (i < pa))
  (Rq ((way.length + (1 : Nat)) * (8 : Nat) ≤ maxSl)
    (Rq ((0 : Int) ≤ i ∧ i < (↑a.length : Int))
      (Rq
        ((out.length +
              [Ed.mk (2 : Int) (way ++ [at_])
                    (Nd.mk (rd Ty.node a i).1 (rd Ty.node a i).2 (rd Ty.node a i).3 (rd Ty.node a i).4
                      (rd Ty.node a i).5 (rd Ty.node a i).6)
                    (Nd.mk (0 : Int) (0 : Int) (ByteArray.mk (Array.mk [])) [] (ByteArray.mk (Array.mk []))
                      [])].length) *
            (224 : Nat) ≤
          maxSl)
        (K Ex.norm
          [AV.row Ty.node a, AV.row Ty.node b, AV.row Ty.int way, AV.own (0 : Nat) (0 : Nat),
            AV.int IntKind.i64 (IntKind.i64.wrap (i + (1 : Int))), AV.int IntKind.i64 j, AV.int IntKind.i64 at_,
            AV.row Ty.rpair ps, AV.int IntKind.i64 t, AV.ptr ((0 : Nat) + (1 : Nat)) (0 : Nat)]
          [Blk.rowb (0 : Nat) Ty.redit
              (out ++
                [Ed.mk (2 : Int) (way ++ [at_])
                    (Nd.mk (rd Ty.node a i).1 (rd Ty.node a i).2 (rd Ty.node a i).3 (rd Ty.node a i).4
                      (rd Ty.node a i).5 (rd Ty.node a i).6)
                    (Nd.mk (0 : Int) (0 : Int) (ByteArray.mk (Array.mk [])) [] (ByteArray.mk (Array.mk [])) [])]),
            Blk.box [AV.int IntKind.i64 pa, AV.int IntKind.i64 pb, AV.bool pw]]))))
  (K (Ex.exit (2 : Nat))
    [AV.row Ty.node a, AV.row Ty.node b, AV.row Ty.int way, AV.own (0 : Nat) (0 : Nat), AV.int IntKind.i64 i,
      AV.int IntKind.i64 j, AV.int IntKind.i64 at_, AV.row Ty.rpair ps, AV.int IntKind.i64 t,
      AV.ptr ((0 : Nat) + (1 : Nat)) (0 : Nat)]
    [Blk.rowb (0 : Nat) Ty.redit out, Blk.box [AV.int IntKind.i64 pa, AV.int IntKind.i64 pb, AV.bool pw]])) := by kernel_rfl
theorem vcS3 (k : Nat) (a b : List Nd) (way : List Int) (i j at_ t pa pb : Int) (pw : Bool) (ps : List Pr) (out : List Ed) (K : Ex → List AV → List Blk → Prop) : (bodyA (cxS21 k) (LL Try.f29 (lssS21 k)) Try.f29.ntmps (loopAt Try.f29 2).1 (loopAt Try.f29 2).2 lsS3.keep lsS3.left K [.row .node a, .row .node b, .row .int way, .own 0 0, .int .i64 i, .int .i64 j, .int .i64 at_, .row .rpair ps, .int .i64 t, .ptr 1 0] [.rowb 0 .redit out, .box [.int .i64 pa, .int .i64 pb, .bool pw]]) = (
Br (decide (j < pb))
  (Rq ((way.length + (1 : Nat)) * (8 : Nat) ≤ maxSl)
    (Rq ((0 : Int) ≤ j ∧ j < (↑b.length : Int))
      (Rq
        ((out.length +
              [Ed.mk (1 : Int) (way ++ [at_])
                    (Nd.mk (0 : Int) (0 : Int) (ByteArray.mk (Array.mk [])) [] (ByteArray.mk (Array.mk [])) [])
                    (Nd.mk (rd Ty.node b j).1 (rd Ty.node b j).2 (rd Ty.node b j).3 (rd Ty.node b j).4
                      (rd Ty.node b j).5 (rd Ty.node b j).6)].length) *
            (224 : Nat) ≤
          maxSl)
        (K Ex.norm
          [AV.row Ty.node a, AV.row Ty.node b, AV.row Ty.int way, AV.own (0 : Nat) (0 : Nat), AV.int IntKind.i64 i,
            AV.int IntKind.i64 (IntKind.i64.wrap (j + (1 : Int))),
            AV.int IntKind.i64 (IntKind.i64.wrap (at_ + (1 : Int))), AV.row Ty.rpair ps, AV.int IntKind.i64 t,
            AV.ptr ((0 : Nat) + (1 : Nat)) (0 : Nat)]
          [Blk.rowb (0 : Nat) Ty.redit
              (out ++
                [Ed.mk (1 : Int) (way ++ [at_])
                    (Nd.mk (0 : Int) (0 : Int) (ByteArray.mk (Array.mk [])) [] (ByteArray.mk (Array.mk [])) [])
                    (Nd.mk (rd Ty.node b j).1 (rd Ty.node b j).2 (rd Ty.node b j).3 (rd Ty.node b j).4
                      (rd Ty.node b j).5 (rd Ty.node b j).6)]),
            Blk.box [AV.int IntKind.i64 pa, AV.int IntKind.i64 pb, AV.bool pw]]))))
  (K (Ex.exit (4 : Nat))
    [AV.row Ty.node a, AV.row Ty.node b, AV.row Ty.int way, AV.own (0 : Nat) (0 : Nat), AV.int IntKind.i64 i,
      AV.int IntKind.i64 j, AV.int IntKind.i64 at_, AV.row Ty.rpair ps, AV.int IntKind.i64 t,
      AV.ptr ((0 : Nat) + (1 : Nat)) (0 : Nat)]
    [Blk.rowb (0 : Nat) Ty.redit out, Blk.box [AV.int IntKind.i64 pa, AV.int IntKind.i64 pb, AV.bool pw]])) := by kernel_rfl
theorem vcS21F (k : Nat) (a b : List Nd) (way : List Int) (Q : List AV → List Blk → List Blk → Prop) : (funA (cxS21 k) (LL Try.f29 (lssS21 k)) Try.f29 [.row .node a, .row .node b, .row .int way] [] [.own .redit] Q) = (
Rq (a.length + b.length ≤ (65536 : Nat))
  (Rq
    ((0 : Int) = (0 : Int) ∧
      (0 : Int) = (0 : Int) ∧
        (0 : Int) = (0 : Int) ∧
          (0 : Int) = (0 : Int) ∧ (0 : Nat) = (0 : Nat) ∧ okR (k + (1 : Nat)) a b way ∧ pairsS a b = pairsS a b)
    (Q [AV.own (0 : Nat) (0 : Nat)] [] [Blk.rowb (0 : Nat) Ty.redit (scriptF (k + (1 : Nat)) a b way)]))) := by kernel_rfl
end Go.Proofs.Ytmkjjopflncedaa.AX
end
section
namespace Go.Proofs.Ytmkjjopflncedaa.AX
open Go AXP
set_option maxRecDepth 100000
theorem vcCopiedF (n : Nd) (Q : List AV → List Blk → List Blk → Prop) : (funA cxCopied (LL Try.f103 []) Try.f103 [.agg (nodeL n)] [] [] Q) = (
Rq (fitNds [Nd.mk n.1 n.2 n.3 n.4 n.5 n.6])
  (Rq ((0 : Int) ≤ (0 : Int) ∧ (0 : Int) < (↑[Nd.mk n.1 n.2 n.3 n.4 n.5 n.6].length : Int))
    (Q
      [AV.agg
          [AV.int IntKind.i64 n.1, AV.int IntKind.i64 n.2, AV.str n.3, AV.row Ty.attr n.4, AV.str n.5,
            AV.row Ty.node n.6]]
      [] []))) := by kernel_rfl
theorem vcAddF (what at_ : Int) (way : List Int) (o n : Nd) (out : List Ed) (Q : List AV → List Blk → List Blk → Prop) : (funA cxAdd (LL Try.f75 []) Try.f75 [.ptr 0 0, .int .i64 what, .row .int way, .int .i64 at_, .agg (nodeL o ++ nodeL n)] [.box [.own 1 0], .rowb 0 .edit out] [] Q) = (
Rq (way.length * (8 : Nat) ≤ maxSl)
  (Rq ((way.length + [at_].length) * (8 : Nat) ≤ maxSl)
    (Rq (wtNd (Nd.mk o.1 o.2 o.3 o.4 o.5 o.6) ≤ wtMx)
      (Rq (wtNd (Nd.mk n.1 n.2 n.3 n.4 n.5 n.6) ≤ wtMx)
        (Rq
          ((out.length +
                [Ed.mk what (way ++ [at_]) (Nd.mk o.1 o.2 o.3 o.4 o.5 o.6) (Nd.mk n.1 n.2 n.3 n.4 n.5 n.6)].length) *
              (224 : Nat) ≤
            maxSl)
          (Q []
            [Blk.box [AV.own ((0 : Nat) + (1 : Nat)) (0 : Nat)],
              Blk.rowb (0 : Nat) Ty.edit
                (out ++ [Ed.mk what (way ++ [at_]) (Nd.mk o.1 o.2 o.3 o.4 o.5 o.6) (Nd.mk n.1 n.2 n.3 n.4 n.5 n.6)])]
            [])))))) := by kernel_rfl
theorem vcAlkF (k : Nat) (at_ : Int) (way : List Int) (x y : Nd) (out : List Ed) (Q : List AV → List Blk → List Blk → Prop) : (funA (cxAlk k) (LL Try.f76 []) Try.f76 [.ptr 0 0, .agg (nodeL x), .agg (nodeL y), .row .int way, .int .i64 at_] [.box [.own 1 0], .rowb 0 .edit out] [] Q) = (
Br (!eql eqAt x.4 y.4)
  (Rq
    ((out.length + (1 : Nat)) * (224 : Nat) ≤ maxSl ∧
      (way.length + (1 : Nat)) * (8 : Nat) ≤ maxSl ∧
        wtNd (Nd.mk (0 : Int) (0 : Int) (ByteArray.mk (Array.mk [])) x.4 (ByteArray.mk (Array.mk [])) []) ≤ wtMx ∧
          wtNd (Nd.mk (0 : Int) (0 : Int) (ByteArray.mk (Array.mk [])) y.4 (ByteArray.mk (Array.mk [])) []) ≤ wtMx)
    (Br (!eqS x.5 y.5)
      (Rq
        (((out ++
                    [Ed.mk (3 : Int) (way ++ [at_])
                        (Nd.mk (0 : Int) (0 : Int) (ByteArray.mk (Array.mk [])) x.4 (ByteArray.mk (Array.mk [])) [])
                        (Nd.mk (0 : Int) (0 : Int) (ByteArray.mk (Array.mk [])) y.4 (ByteArray.mk (Array.mk []))
                          [])]).length +
                (1 : Nat)) *
              (224 : Nat) ≤
            maxSl ∧
          (way.length + (1 : Nat)) * (8 : Nat) ≤ maxSl ∧
            wtNd (Nd.mk (0 : Int) (0 : Int) (ByteArray.mk (Array.mk [])) [] x.5 []) ≤ wtMx ∧
              wtNd (Nd.mk (0 : Int) (0 : Int) (ByteArray.mk (Array.mk [])) [] y.5 []) ≤ wtMx)
        (Rq (way.length * (8 : Nat) ≤ maxSl)
          (Rq ((way.length + [at_].length) * (8 : Nat) ≤ maxSl)
            (Rq
              (okSc k x.6 y.6 (way ++ [at_])
                (out ++
                    [Ed.mk (3 : Int) (way ++ [at_])
                        (Nd.mk (0 : Int) (0 : Int) (ByteArray.mk (Array.mk [])) x.4 (ByteArray.mk (Array.mk [])) [])
                        (Nd.mk (0 : Int) (0 : Int) (ByteArray.mk (Array.mk [])) y.4 (ByteArray.mk (Array.mk [])) [])] ++
                  [Ed.mk (4 : Int) (way ++ [at_]) (Nd.mk (0 : Int) (0 : Int) (ByteArray.mk (Array.mk [])) [] x.5 [])
                      (Nd.mk (0 : Int) (0 : Int) (ByteArray.mk (Array.mk [])) [] y.5 [])]))
              (Q []
                [Blk.box [AV.own ((0 : Nat) + (1 : Nat)) (0 : Nat)],
                  Blk.rowb (0 : Nat) Ty.edit
                    (out ++
                          [Ed.mk (3 : Int) (way ++ [at_])
                              (Nd.mk (0 : Int) (0 : Int) (ByteArray.mk (Array.mk [])) x.4 (ByteArray.mk (Array.mk []))
                                [])
                              (Nd.mk (0 : Int) (0 : Int) (ByteArray.mk (Array.mk [])) y.4 (ByteArray.mk (Array.mk []))
                                [])] ++
                        [Ed.mk (4 : Int) (way ++ [at_])
                            (Nd.mk (0 : Int) (0 : Int) (ByteArray.mk (Array.mk [])) [] x.5 [])
                            (Nd.mk (0 : Int) (0 : Int) (ByteArray.mk (Array.mk [])) [] y.5 [])] ++
                      scriptF k x.6 y.6 (way ++ [at_]))]
                [])))))
      (Rq (way.length * (8 : Nat) ≤ maxSl)
        (Rq ((way.length + [at_].length) * (8 : Nat) ≤ maxSl)
          (Rq
            (okSc k x.6 y.6 (way ++ [at_])
              (out ++
                [Ed.mk (3 : Int) (way ++ [at_])
                    (Nd.mk (0 : Int) (0 : Int) (ByteArray.mk (Array.mk [])) x.4 (ByteArray.mk (Array.mk [])) [])
                    (Nd.mk (0 : Int) (0 : Int) (ByteArray.mk (Array.mk [])) y.4 (ByteArray.mk (Array.mk [])) [])]))
            (Q []
              [Blk.box [AV.own ((0 : Nat) + (1 : Nat)) (0 : Nat)],
                Blk.rowb (0 : Nat) Ty.edit
                  (out ++
                      [Ed.mk (3 : Int) (way ++ [at_])
                          (Nd.mk (0 : Int) (0 : Int) (ByteArray.mk (Array.mk [])) x.4 (ByteArray.mk (Array.mk [])) [])
                          (Nd.mk (0 : Int) (0 : Int) (ByteArray.mk (Array.mk [])) y.4 (ByteArray.mk (Array.mk []))
                            [])] ++
                    scriptF k x.6 y.6 (way ++ [at_]))]
              []))))))
  (Br (!eqS x.5 y.5)
    (Rq
      ((out.length + (1 : Nat)) * (224 : Nat) ≤ maxSl ∧
        (way.length + (1 : Nat)) * (8 : Nat) ≤ maxSl ∧
          wtNd (Nd.mk (0 : Int) (0 : Int) (ByteArray.mk (Array.mk [])) [] x.5 []) ≤ wtMx ∧
            wtNd (Nd.mk (0 : Int) (0 : Int) (ByteArray.mk (Array.mk [])) [] y.5 []) ≤ wtMx)
      (Rq (way.length * (8 : Nat) ≤ maxSl)
        (Rq ((way.length + [at_].length) * (8 : Nat) ≤ maxSl)
          (Rq
            (okSc k x.6 y.6 (way ++ [at_])
              (out ++
                [Ed.mk (4 : Int) (way ++ [at_]) (Nd.mk (0 : Int) (0 : Int) (ByteArray.mk (Array.mk [])) [] x.5 [])
                    (Nd.mk (0 : Int) (0 : Int) (ByteArray.mk (Array.mk [])) [] y.5 [])]))
            (Q []
              [Blk.box [AV.own ((0 : Nat) + (1 : Nat)) (0 : Nat)],
                Blk.rowb (0 : Nat) Ty.edit
                  (out ++
                      [Ed.mk (4 : Int) (way ++ [at_]) (Nd.mk (0 : Int) (0 : Int) (ByteArray.mk (Array.mk [])) [] x.5 [])
                          (Nd.mk (0 : Int) (0 : Int) (ByteArray.mk (Array.mk [])) [] y.5 [])] ++
                    scriptF k x.6 y.6 (way ++ [at_]))]
              [])))))
    (Rq (way.length * (8 : Nat) ≤ maxSl)
      (Rq ((way.length + [at_].length) * (8 : Nat) ≤ maxSl)
        (Rq (okSc k x.6 y.6 (way ++ [at_]) out)
          (Q []
            [Blk.box [AV.own ((0 : Nat) + (1 : Nat)) (0 : Nat)],
              Blk.rowb (0 : Nat) Ty.edit (out ++ scriptF k x.6 y.6 (way ++ [at_]))]
            [])))))) := by kernel_rfl
end Go.Proofs.Ytmkjjopflncedaa.AX
end
section
namespace Go.Proofs.Ytmkjjopflncedaa.AX
open Go AXP
set_option maxRecDepth 100000
theorem copied_holds : Holds 103 conCopied := conP_holds fun n => by
  refine fun_meets0 (AllH.tok (.cons copy_holds (by kernel_rfl) .nil)) [] (by kernel_rfl) (by kernel_rfl) fun hpre => Eq.mpr (vcCopiedF n _) ?_
  have hw : wtNd n ≤ wtMx := hpre _ rfl
  rw [nd_eta]
  exact ⟨fit_of_wt _ (by rw [wt_one]; exact hw), ⟨⟨Int.le_refl _, by show (0 : Int) < 1; decide⟩, qfin rfl rfl rfl rfl⟩⟩
theorem two_le {cs : List AV} {o n : Nd} (ho : toNd (cs.take 6) = some o) (hn : toNd (cs.drop 6) = some n) : AVle (.agg cs) (.agg (nodeL o ++ nodeL n)) := fun w O I v hv => by
  obtain ⟨us, h1, h2⟩ := hv
  refine ⟨us, h1, ?_⟩
  have := (toNd_R (h2.take 6) ho).append (toNd_R (h2.drop 6) hn)
  rw [List.take_append_drop] at this
  exact this
theorem add_holds : Holds 75 conAdd := by
  intro args hp ans hc
  unfold conAdd at hc
  split at hc
  case h_2 => cases hc
  rename_i what x at_ cs out
  simp only [Option.bind_eq_some_iff] at hc
  obtain ⟨way, hx, o, ho, n, hn, hc⟩ := hc
  injection hc with hc
  subst hc
  refine Meets.weaken (args' := [.ptr 0 0, .int .i64 what, .row .int way, .int .i64 at_, .agg (nodeL o ++ nodeL n)]) (.cons (.refl _) (.cons (.refl _) (.cons (rowOf_le hx) (.cons (.refl _) (.cons (two_le ho hn) .nil))))) ?_
  refine fun_meets0 (AllH.tok (.cons cloneIts_holds (by kernel_rfl) (.cons copied_holds (by kernel_rfl) .nil))) [] (by kernel_rfl) (by kernel_rfl) fun hpre => Eq.mpr (vcAddF what at_ way o n out _) ?_
  obtain ⟨h1, h2, h3, h4⟩ := hpre _ rfl
  simp only [nd_eta]
  exact ⟨Nat.le_trans (Nat.mul_le_mul_right _ (Nat.le_succ _)) h2, ⟨h2, ⟨h3, ⟨h4, ⟨h1, qfin rfl rfl rfl rfl⟩⟩⟩⟩⟩
theorem wt_at1 (x : Nd) : wtNd ({ (default : Nd) with attrs := x.attrs } : Nd) ≤ wtNd x := by rw [wtNd_eq, wtNd_eq]; show 1 + x.attrs.length + 0 ≤ _; omega
theorem wt_tx1 (x : Nd) : wtNd ({ (default : Nd) with text := x.text } : Nd) ≤ wtNd x := by rw [wtNd_eq, wtNd_eq]; show 1 + 0 + 0 ≤ _; omega
theorem att_yes {x y : Nd} {W : List Int} (h : (!eql eqAt x.attrs y.attrs) = true) : attE x y W = [⟨3, W, { (default : Nd) with attrs := x.attrs }, { (default : Nd) with attrs := y.attrs }⟩] := by
  unfold attE; rw [if_neg (by simpa using h)]
theorem att_no {x y : Nd} {W : List Int} (h : (!eql eqAt x.attrs y.attrs) = false) : attE x y W = [] := by
  unfold attE; rw [if_pos (by simpa using h)]
theorem txt_yes {x y : Nd} {W : List Int} (h : (!eqS x.text y.text) = true) : txtE x y W = [⟨4, W, { (default : Nd) with text := x.text }, { (default : Nd) with text := y.text }⟩] := by
  unfold txtE; rw [if_neg (by simpa using h)]
theorem txt_no {x y : Nd} {W : List Int} (h : (!eqS x.text y.text) = false) : txtE x y W = [] := by
  unfold txtE; rw [if_pos (by simpa using h)]
theorem alk_of {k : Nat} (hl : Holds 54 (conLstLt k)) : Holds 76 (conAlkLt k) := by
  intro args hp ans hc
  unfold conAlkLt at hc
  split at hc
  case h_2 => cases hc
  rename_i c1 c2 z at_ out
  simp only [Option.bind_eq_some_iff] at hc
  obtain ⟨x, hx, y, hy, way, hz, hc⟩ := hc
  injection hc with hc
  subst hc
  refine Meets.weaken (args' := [.ptr 0 0, .agg (nodeL x), .agg (nodeL y), .row .int way, .int .i64 at_]) (.cons (.refl _) (.cons (toNd_le hx) (.cons (toNd_le hy) (.cons (rowOf_le hz) (.cons (.refl _) .nil))))) ?_
  refine fun_meets0 (AllH.tok (.cons cloneIts_holds (by kernel_rfl) (.cons eqAts_holds (by kernel_rfl) (.cons add_holds (by kernel_rfl) (.cons hl (by kernel_rfl) .nil))))) [] (by kernel_rfl) (by kernel_rfl) fun hpre => Eq.mpr (vcAlkF k at_ way x y out _) ?_
  obtain ⟨h1, h2, h3, h4, h5⟩ := hpre _ rfl
  have w0 : way.length * 8 ≤ maxSl := Nat.le_trans (Nat.mul_le_mul_right _ (Nat.le_succ _)) h3
  have o1 : (out.length + 1) * 224 ≤ maxSl := Nat.le_trans (Nat.mul_le_mul_right _ (Nat.le_succ _)) h2
  have a1 := Nat.le_trans (wt_at1 x) h4
  have a2 := Nat.le_trans (wt_at1 y) h5
  have t1 := Nat.le_trans (wt_tx1 x) h4
  have t2 := Nat.le_trans (wt_tx1 y) h5
  have fin : ∀ L : List Ed, L = out ++ alikeE (scriptF k) x y (way ++ [at_]) → ∀ p : Prop, FinQ { pre := some p, res := .tup [], hp := [.box [.own 1 0], .rowb 0 .edit (out ++ alikeE (scriptF k) x y (way ++ [at_]))] } [] [.box [.own 1 0], .rowb 0 .edit L] [] := fun L h p => qfin rfl rfl (by rw [h]) rfl
  unfold alikeE at fin
  refine ⟨fun g1 => ⟨⟨o1, h3, a1, a2⟩, ⟨fun g2 => ⟨⟨?_, h3, t1, t2⟩, ⟨w0, ⟨h3, ⟨?_, fin _ ?_ _⟩⟩⟩⟩, fun g2 => ⟨w0, ⟨h3, ⟨?_, fin _ ?_ _⟩⟩⟩⟩⟩, fun g1 => ⟨fun g2 => ⟨⟨o1, h3, t1, t2⟩, ⟨w0, ⟨h3, ⟨?_, fin _ ?_ _⟩⟩⟩⟩, fun g2 => ⟨w0, ⟨h3, ⟨?_, fin _ ?_ _⟩⟩⟩⟩⟩
  · rw [List.length_append]; exact h2
  · have := h1; rw [att_yes g1, txt_yes g2] at this; exact this
  · rw [att_yes g1, txt_yes g2]; simp only [List.append_assoc]; rfl
  · have := h1; rw [att_yes g1, txt_no g2, List.append_nil] at this; exact this
  · rw [att_yes g1, txt_no g2]; simp only [List.append_assoc, List.append_nil]; rfl
  · have := h1; rw [att_no g1, txt_yes g2, List.append_nil] at this; exact this
  · rw [att_no g1, txt_yes g2]; simp only [List.append_assoc, List.nil_append]; rfl
  · have := h1; rw [att_no g1, txt_no g2, List.append_nil, List.append_nil] at this; exact this
  · rw [att_no g1, txt_no g2]; rfl
end Go.Proofs.Ytmkjjopflncedaa.AX
end
section
namespace Go.Proofs.Ytmkjjopflncedaa.AXP
open Go Go.Proofs.Ytmkjjopflncedaa.AX
def RiseX (la lb : Nat) : Int → Int → List Pr → Prop
  | _, _, [] => True
  | i, j, p :: ps => i ≤ p.a ∧ j ≤ p.b ∧ p.a ≤ la ∧ p.b ≤ lb ∧ (p.whole = false → p.a < la ∧ p.b < lb) ∧ RiseX la lb (p.a + 1) (p.b + 1) ps
def endsP (a b : List Nd) : List Pr := pairsS a b ++ [⟨a.length, b.length, true⟩]
end Go.Proofs.Ytmkjjopflncedaa.AXP
namespace Go.Proofs.Ytmkjjopflncedaa.AX
open Go AXP
noncomputable def cxLst (k : Nat) : Cx := cxT (tabLook [(74, conLists), (75, conAdd), (76, conAlkLt k)])
def kpLst : List (Tmp × Want) := [(0, .as), (1, .as), (2, .as), (3, .as), (8, .as), (9, .as), (10, .as), (22, .row .pair), (23, .as), (24, .as)]
def kpLst2 : List (Tmp × Want) := [(0, .as), (1, .as), (2, .as), (3, .as), (8, .as), (9, .as), (10, .as), (12, .as), (22, .row .pair), (23, .as), (24, .as)]
noncomputable def lsLstO (k : Nat) : LS where
  keep := kpLst
  left := [(0, .as)]
  sum := fun vs bs K => match vs, bs with
    | [.ptr 0 0, .row .node a, .row .node b, .row .int way, .int .i64 i, .int .i64 j, .int .i64 at_, .row .pair ps, .int .i64 m, .int .i64 t], [.box [.own 1 0], .rowb 0 .edit out] =>
      Rq (m = ps.length ∧ t = 0 ∧ i = 0 ∧ j = 0 ∧ at_ = 0 ∧ okSc (k + 1) a b way out ∧ ps = endsP a b) (K (.exit 0) [.ptr 0 0] [.box [.own 1 0], .rowb 0 .edit (out ++ genI (scriptF k) a b way ps 0 0)])
    | _, _ => False
def lsLstD : LS where
  keep := kpLst2
  left := kpLst2
  sum := fun vs bs K => match vs, bs with
    | [.ptr 0 0, .row .node a, .row .node b, .row .int way, .int .i64 i, .int .i64 j, .int .i64 at_, .ptr 1 0, .row .pair ps, .int .i64 m, .int .i64 t], [.box [.own 2 0], .box [.int .i64 pa, .int .i64 pb, .bool pw], .rowb 0 .edit out] =>
      Rq (0 ≤ i ∧ i ≤ pa ∧ pa ≤ a.length ∧ 0 ≤ at_ ∧ out.length + (pa.toNat - i.toNat) ≤ roomMx ∧ way.length + 1 ≤ roomMx ∧ wtNds a ≤ wtMx)
        (K (.exit 2) [.ptr 0 0, .row .node a, .row .node b, .row .int way, .int .i64 pa, .int .i64 j, .int .i64 at_, .ptr 1 0, .row .pair ps, .int .i64 m, .int .i64 t] [.box [.own 2 0], .box [.int .i64 pa, .int .i64 pb, .bool pw], .rowb 0 .edit (out ++ delsI a way at_ pa i)])
    | _, _ => False
def lsLstI : LS where
  keep := kpLst2
  left := kpLst2
  sum := fun vs bs K => match vs, bs with
    | [.ptr 0 0, .row .node a, .row .node b, .row .int way, .int .i64 i, .int .i64 j, .int .i64 at_, .ptr 1 0, .row .pair ps, .int .i64 m, .int .i64 t], [.box [.own 2 0], .box [.int .i64 pa, .int .i64 pb, .bool pw], .rowb 0 .edit out] =>
      Rq (0 ≤ j ∧ at_ = j ∧ j ≤ pb ∧ pb ≤ b.length ∧ out.length + (pb.toNat - j.toNat) ≤ roomMx ∧ way.length + 1 ≤ roomMx ∧ wtNds b ≤ wtMx)
        (K (.exit 4) [.ptr 0 0, .row .node a, .row .node b, .row .int way, .int .i64 i, .int .i64 pb, .int .i64 pb, .ptr 1 0, .row .pair ps, .int .i64 m, .int .i64 t] [.box [.own 2 0], .box [.int .i64 pa, .int .i64 pb, .bool pw], .rowb 0 .edit (out ++ inssI b way pb j)])
    | _, _ => False
noncomputable def lssLst (k : Nat) : List LS := [lsLstO k, lsLstD, lsLstI]
noncomputable def conLst : Con := fun args hp => match args, hp with
  | [.ptr 0 0, x, y, z], [.box [.own 1 0], .rowb 0 .edit out] => (rowOf .node x).bind fun (a : List Nd) => (rowOf .node y).bind fun (b : List Nd) => (rowOf .int z).bind fun (way : List Int) =>
    some { pre := some (okSc (dpNds a + 1) a b way out), res := .tup [], hp := [.box [.own 1 0], .rowb 0 .edit (out ++ scriptS a b way)] }
  | _, _ => none
noncomputable def cxScript : Cx := cxT (tabLook [(54, conLst)])
noncomputable def conScript : Con := conP [.row .node, .row .node] fun (a b : List Nd) => { pre := some (okSc (dpNds a + 1) a b [] []), res := .own 0 0, extra := [.rowb 0 .edit (scriptS a b [])] }
end Go.Proofs.Ytmkjjopflncedaa.AX
end
section
namespace Go.Proofs.Ytmkjjopflncedaa.AX
open Go AXP
theorem delsE_len (a : List Nd) (way : List Int) (t : Nat) : ∀ n i, (delsE a way t n i).length = n
  | 0, _ => rfl
  | n + 1, i => by rw [delsE, List.length_cons, delsE_len a way t n (i + 1)]
theorem inssE_len (b : List Nd) (way : List Int) : ∀ n i, (inssE b way n i).length = n
  | 0, _ => rfl
  | n + 1, i => by rw [inssE, List.length_cons, inssE_len b way n (i + 1)]
theorem rd_ndD {a : List Nd} {i : Nat} (h : i < a.length) : rd .node a (i : Int) = a.getD i default := by rw [rd_nd h, getD_at h]
theorem genI_ends {r : List Nd → List Nd → List Int → List Ed} {a b : List Nd} {way : List Int} {e lab : Nat → Nat → Bool} : ∀ {ps : List Pr} {i j i' j' : Nat}, RiseL e lab a.length b.length i' j' ps → genI r a b way (ps ++ [⟨a.length, b.length, true⟩]) i j = genE r a b way ps i j
  | [], i, j, _, _, _ => by
    show delsI a way j a.length i ++ inssI b way b.length j ++ (if true = true then [] else _) ++ genI r a b way [] _ _ = _
    rw [if_pos rfl, List.append_nil, genI, List.append_nil, genE]
    rfl
  | p :: ps, i, j, i', j', h => by
    obtain ⟨x, y, w, rfl, h1, h2, h3, h4, h5, h6, h7⟩ := h
    rw [List.cons_append, genI, genE]
    have ih := genI_ends (r := r) (way := way) (i := x + 1) (j := y + 1) h7
    simp only [Int.toNat_natCast]
    rw [rd_ndD h3, rd_ndD h4, ← ih]
    rfl
theorem rise_ends {e lab : Nat → Nat → Bool} {la lb : Nat} : ∀ {ps : List Pr} {i j : Nat}, RiseL e lab la lb i j ps → i ≤ la → j ≤ lb → RiseX la lb i j (ps ++ [⟨la, lb, true⟩])
  | [], i, j, _, hi, hj => ⟨by dsimp only; omega, by dsimp only; omega, by dsimp only; omega, by dsimp only; omega, fun h => (nomatch h), trivial⟩
  | p :: ps, i, j, h, hi, hj => by
    obtain ⟨x, y, w, rfl, h1, h2, h3, h4, h5, h6, h7⟩ := h
    have ih := rise_ends h7 h3 h4
    exact ⟨by dsimp only; omega, by dsimp only; omega, by dsimp only; omega, by dsimp only; omega, fun _ => ⟨by dsimp only; omega, by dsimp only; omega⟩, ih⟩
theorem wt_drop_ge (l : List Nd) {i p : Nat} (h : i ≤ p) (hp : p ≤ l.length) : (p - i) + wtNds (l.drop p) ≤ wtNds (l.drop i) := by
  have h1 := wt_take_drop (l.drop i) (p - i)
  rw [List.drop_drop, show i + (p - i) = p by omega] at h1
  have h2 := wt_len ((l.drop i).take (p - i))
  rw [List.length_take, List.length_drop] at h2
  omega
theorem wt_drop_get (l : List Nd) {p : Nat} (h : p < l.length) : wtNds (l.drop p) = wtNd (l.getD p default) + wtNds (l.drop (p + 1)) := by
  rw [List.drop_eq_getElem_cons h, wtNds, getD_at h]
theorem wt_drop_le (l : List Nd) (p : Nat) : wtNds (l.drop (p + 1)) ≤ wtNds (l.drop p) := by
  by_cases h : p < l.length
  · rw [wt_drop_get l h]; omega
  · rw [List.drop_of_length_le (by omega)]; exact Nat.zero_le _
theorem attE_len (x y : Nd) (w : List Int) : (attE x y w).length ≤ 1 := by unfold attE; split <;> simp
theorem txtE_len (x y : Nd) (w : List Int) : (txtE x y w).length ≤ 1 := by unfold txtE; split <;> simp
theorem alikeE_len {r : List Nd → List Nd → List Int → List Ed} {x y : Nd} {w : List Int} (h : (r x.kids y.kids w).length ≤ 3 * (wtNds x.kids + wtNds y.kids)) : (alikeE r x y w).length ≤ 3 * (wtNd x + wtNd y) := by
  have h1 := attE_len x y w
  have h2 := txtE_len x y w
  unfold alikeE
  rw [List.length_append, List.length_append, wtNd_eq, wtNd_eq]; omega
theorem genE_len {r : List Nd → List Nd → List Int → List Ed} {a b : List Nd} {way : List Int} {e lab : Nat → Nat → Bool} (hr : ∀ x y w, (r x y w).length ≤ 3 * (wtNds x + wtNds y)) : ∀ {ps : List Pr} {i j : Nat}, RiseL e lab a.length b.length i j ps → i ≤ a.length → j ≤ b.length → (genE r a b way ps i j).length ≤ 3 * (wtNds (a.drop i) + wtNds (b.drop j))
  | [], i, j, _, hi, hj => by
    have h1 := wt_drop_ge a hi (Nat.le_refl _)
    have h2 := wt_drop_ge b hj (Nat.le_refl _)
    rw [genE, List.length_append, delsE_len, inssE_len]; omega
  | p :: ps, i, j, h, hi, hj => by
    obtain ⟨x, y, w, rfl, h1, h2, h3, h4, h5, h6, h7⟩ := h
    have ih := genE_len (way := way) hr h7 h3 h4
    have a1 := wt_drop_ge a h1 (Nat.le_of_lt h3)
    have b1 := wt_drop_ge b h2 (Nat.le_of_lt h4)
    rw [genE]
    simp only [Int.toNat_natCast]
    rw [wt_drop_get a h3] at a1
    rw [wt_drop_get b h4] at b1
    have al := alikeE_len (r := r) (x := a.getD x default) (y := b.getD y default) (w := way ++ [((y : Nat) : Int)]) (hr _ _ _)
    rw [List.length_append, List.length_append, List.length_append, delsE_len, inssE_len]
    have hif : (if w = true then [] else alikeE r (a.getD x default) (b.getD y default) (way ++ [((y : Nat) : Int)])).length ≤ 3 * (wtNd (a.getD x default) + wtNd (b.getD y default)) := by
      split
      · exact Nat.zero_le _
      · exact al
    generalize (if w = true then [] else alikeE r (a.getD x default) (b.getD y default) (way ++ [((y : Nat) : Int)])).length = n at hif ⊢
    omega
theorem scriptF_len : ∀ (k : Nat) (a b : List Nd) (way : List Int), (scriptF k a b way).length ≤ 3 * (wtNds a + wtNds b)
  | 0, _, _, _ => Nat.zero_le _
  | k + 1, a, b, way => by
    rw [scriptF]
    have := genE_len (way := way) (scriptF_len k) (pairs_rise a b) (Nat.zero_le _) (Nat.zero_le _)
    exact this
theorem keys_mem : ∀ {l : List Nd} {x : Nd}, x ∈ l → (keyS x).size ≤ (keysS l).size
  | y :: l, x, h => by
    rw [keysS, ByteArray.size_append]
    cases h with
    | head => omega
    | tail _ h => have := keys_mem h; omega
theorem keys_kids (x : Nd) : (keysS x.kids).size ≤ (keyS x).size := by
  rw [keyS_eq]; simp only [ByteArray.size_append]; omega
theorem getD_mem {a : List Nd} {i : Nat} (h : i < a.length) : a.getD i default ∈ a := by rw [getD_at h]; exact List.getElem_mem h
theorem pkey_of {a : List Nd} (hr : rngNds a) (hs : (keysS a).size ≤ maxSl) : ∀ n ∈ a, PKey n := fun _ hn => ⟨rngNds_mem hr hn, Nat.le_trans (keys_mem hn) hs⟩
theorem okSc_kids {k : Nat} {a b : List Nd} {way : List Int} {out out' : List Ed} (h : okSc (k + 1) a b way out) {x y : Nat} (hx : x < a.length) (hy : y < b.length) (v : Int)
    (hb : out'.length + 3 * (wtNds (a.getD x default).kids + wtNds (b.getD y default).kids) ≤ roomMx) : okSc k (a.getD x default).kids (b.getD y default).kids (way ++ [v]) out' := by
  obtain ⟨h1, h2, h3, h4, h5, h6, h7, h8, h9⟩ := h
  have e1 := dp_kids hx
  have ma := getD_mem hx
  have mb := getD_mem hy
  have w1 := wt_mem ma
  have w2 := wt_mem mb
  rw [wtNd_eq] at w1 w2
  refine ⟨by omega, ((rngNd_eq _).1 (rngNds_mem h2 ma)).2.2, ((rngNd_eq _).1 (rngNds_mem h3 mb)).2.2, Nat.le_trans (keys_kids _) (Nat.le_trans (keys_mem ma) h4), Nat.le_trans (keys_kids _) (Nat.le_trans (keys_mem mb) h5), by omega, by omega, ?_, hb⟩
  rw [List.length_append, List.length_cons, List.length_nil]; omega
theorem room_le {n : Nat} (h : n ≤ roomMx + 1) : n * 224 ≤ maxSl := Nat.le_trans (Nat.mul_le_mul_right _ h) (by unfold roomMx maxSl; decide)
theorem way_le {n : Nat} (h : n ≤ roomMx + 1) : n * 8 ≤ maxSl := Nat.le_trans (Nat.mul_le_mul_left _ (by decide : 8 ≤ 224)) (room_le h)
end Go.Proofs.Ytmkjjopflncedaa.AX
end
section
namespace Go.Proofs.Ytmkjjopflncedaa.AX
open Go AXP
set_option maxRecDepth 100000
theorem vcLstD (k : Nat) (a b : List Nd) (way : List Int) (i j at_ pa pb m t : Int) (pw : Bool) (ps : List Pr) (out : List Ed) (K : Ex → List AV → List Blk → Prop) : (bodyA (cxLst k) (LL Try.f54 (lssLst k)) Try.f54.ntmps (loopAt Try.f54 1).1 (loopAt Try.f54 1).2 lsLstD.keep lsLstD.left K [.ptr 0 0, .row .node a, .row .node b, .row .int way, .int .i64 i, .int .i64 j, .int .i64 at_, .ptr 1 0, .row .pair ps, .int .i64 m, .int .i64 t] [.box [.own 2 0], .box [.int .i64 pa, .int .i64 pb, .bool pw], .rowb 0 .edit out]) = (
Br (decide (i < pa))
  (Rq ((0 : Int) ≤ i ∧ i < (↑a.length : Int))
    (Rq
      ((out.length + (1 : Nat)) * (224 : Nat) ≤ maxSl ∧
        (way.length + (1 : Nat)) * (8 : Nat) ≤ maxSl ∧
          wtNd
                (Nd.mk (rd Ty.node a i).1 (rd Ty.node a i).2 (rd Ty.node a i).3 (rd Ty.node a i).4 (rd Ty.node a i).5
                  (rd Ty.node a i).6) ≤
              wtMx ∧
            wtNd (Nd.mk (0 : Int) (0 : Int) (ByteArray.mk (Array.mk [])) [] (ByteArray.mk (Array.mk [])) []) ≤ wtMx)
      (K Ex.norm
        [AV.ptr (0 : Nat) (0 : Nat), AV.row Ty.node a, AV.row Ty.node b, AV.row Ty.int way,
          AV.int IntKind.i64 (IntKind.i64.wrap (i + (1 : Int))), AV.int IntKind.i64 j, AV.int IntKind.i64 at_,
          AV.ptr ((0 : Nat) + (1 : Nat)) (0 : Nat), AV.row Ty.pair ps, AV.int IntKind.i64 m, AV.int IntKind.i64 t]
        [Blk.box [AV.own ((0 : Nat) + (1 : Nat) + (1 : Nat)) (0 : Nat)],
          Blk.box [AV.int IntKind.i64 pa, AV.int IntKind.i64 pb, AV.bool pw],
          Blk.rowb (0 : Nat) Ty.edit
            (out ++
              [Ed.mk (2 : Int) (way ++ [at_])
                  (Nd.mk (rd Ty.node a i).1 (rd Ty.node a i).2 (rd Ty.node a i).3 (rd Ty.node a i).4 (rd Ty.node a i).5
                    (rd Ty.node a i).6)
                  (Nd.mk (0 : Int) (0 : Int) (ByteArray.mk (Array.mk [])) [] (ByteArray.mk (Array.mk [])) [])])])))
  (K (Ex.exit (2 : Nat))
    [AV.ptr (0 : Nat) (0 : Nat), AV.row Ty.node a, AV.row Ty.node b, AV.row Ty.int way, AV.int IntKind.i64 i,
      AV.int IntKind.i64 j, AV.int IntKind.i64 at_, AV.ptr ((0 : Nat) + (1 : Nat)) (0 : Nat), AV.row Ty.pair ps,
      AV.int IntKind.i64 m, AV.int IntKind.i64 t]
    [Blk.box [AV.own ((0 : Nat) + (1 : Nat) + (1 : Nat)) (0 : Nat)],
      Blk.box [AV.int IntKind.i64 pa, AV.int IntKind.i64 pb, AV.bool pw], Blk.rowb (0 : Nat) Ty.edit out])) := by kernel_rfl
theorem vcLstI (k : Nat) (a b : List Nd) (way : List Int) (i j at_ pa pb m t : Int) (pw : Bool) (ps : List Pr) (out : List Ed) (K : Ex → List AV → List Blk → Prop) : (bodyA (cxLst k) (LL Try.f54 (lssLst k)) Try.f54.ntmps (loopAt Try.f54 2).1 (loopAt Try.f54 2).2 lsLstI.keep lsLstI.left K [.ptr 0 0, .row .node a, .row .node b, .row .int way, .int .i64 i, .int .i64 j, .int .i64 at_, .ptr 1 0, .row .pair ps, .int .i64 m, .int .i64 t] [.box [.own 2 0], .box [.int .i64 pa, .int .i64 pb, .bool pw], .rowb 0 .edit out]) = (
Br (decide (j < pb))
  (Rq ((0 : Int) ≤ j ∧ j < (↑b.length : Int))
    (Rq
      ((out.length + (1 : Nat)) * (224 : Nat) ≤ maxSl ∧
        (way.length + (1 : Nat)) * (8 : Nat) ≤ maxSl ∧
          wtNd (Nd.mk (0 : Int) (0 : Int) (ByteArray.mk (Array.mk [])) [] (ByteArray.mk (Array.mk [])) []) ≤ wtMx ∧
            wtNd
                (Nd.mk (rd Ty.node b j).1 (rd Ty.node b j).2 (rd Ty.node b j).3 (rd Ty.node b j).4 (rd Ty.node b j).5
                  (rd Ty.node b j).6) ≤
              wtMx)
      (K Ex.norm
        [AV.ptr (0 : Nat) (0 : Nat), AV.row Ty.node a, AV.row Ty.node b, AV.row Ty.int way, AV.int IntKind.i64 i,
          AV.int IntKind.i64 (IntKind.i64.wrap (j + (1 : Int))),
          AV.int IntKind.i64 (IntKind.i64.wrap (at_ + (1 : Int))), AV.ptr ((0 : Nat) + (1 : Nat)) (0 : Nat),
          AV.row Ty.pair ps, AV.int IntKind.i64 m, AV.int IntKind.i64 t]
        [Blk.box [AV.own ((0 : Nat) + (1 : Nat) + (1 : Nat)) (0 : Nat)],
          Blk.box [AV.int IntKind.i64 pa, AV.int IntKind.i64 pb, AV.bool pw],
          Blk.rowb (0 : Nat) Ty.edit
            (out ++
              [Ed.mk (1 : Int) (way ++ [at_])
                  (Nd.mk (0 : Int) (0 : Int) (ByteArray.mk (Array.mk [])) [] (ByteArray.mk (Array.mk [])) [])
                  (Nd.mk (rd Ty.node b j).1 (rd Ty.node b j).2 (rd Ty.node b j).3 (rd Ty.node b j).4 (rd Ty.node b j).5
                    (rd Ty.node b j).6)])])))
  (K (Ex.exit (4 : Nat))
    [AV.ptr (0 : Nat) (0 : Nat), AV.row Ty.node a, AV.row Ty.node b, AV.row Ty.int way, AV.int IntKind.i64 i,
      AV.int IntKind.i64 j, AV.int IntKind.i64 at_, AV.ptr ((0 : Nat) + (1 : Nat)) (0 : Nat), AV.row Ty.pair ps,
      AV.int IntKind.i64 m, AV.int IntKind.i64 t]
    [Blk.box [AV.own ((0 : Nat) + (1 : Nat) + (1 : Nat)) (0 : Nat)],
      Blk.box [AV.int IntKind.i64 pa, AV.int IntKind.i64 pb, AV.bool pw], Blk.rowb (0 : Nat) Ty.edit out])) := by kernel_rfl
theorem vcLstO (k : Nat) (a b : List Nd) (way : List Int) (i j at_ m t : Int) (ps : List Pr) (out : List Ed) (K : Ex → List AV → List Blk → Prop) : (bodyA (cxLst k) (LL Try.f54 (lssLst k)) Try.f54.ntmps (loopAt Try.f54 0).1 (loopAt Try.f54 0).2 (lsLstO k).keep (lsLstO k).left K [.ptr 0 0, .row .node a, .row .node b, .row .int way, .int .i64 i, .int .i64 j, .int .i64 at_, .row .pair ps, .int .i64 m, .int .i64 t] [.box [.own 1 0], .rowb 0 .edit out]) = (
Br (decide (t < m))
  (Rq ((0 : Int) ≤ t ∧ t < (↑ps.length : Int))
    (Rq
      ((0 : Int) ≤ i ∧
        i ≤ (rd Ty.pair ps t).1 ∧
          (rd Ty.pair ps t).1 ≤ (↑a.length : Int) ∧
            (0 : Int) ≤ at_ ∧
              out.length + ((rd Ty.pair ps t).1.toNat - i.toNat) ≤ roomMx ∧
                way.length + (1 : Nat) ≤ roomMx ∧ wtNds a ≤ wtMx)
      (Rq
        ((0 : Int) ≤ j ∧
          at_ = j ∧
            j ≤ (rd Ty.pair ps t).2 ∧
              (rd Ty.pair ps t).2 ≤ (↑b.length : Int) ∧
                (out ++ delsI a way at_ (rd Ty.pair ps t).1 i).length + ((rd Ty.pair ps t).2.toNat - j.toNat) ≤ roomMx ∧
                  way.length + (1 : Nat) ≤ roomMx ∧ wtNds b ≤ wtMx)
        (Br (!(rd Ty.pair ps t).3)
          (Rq ((0 : Int) ≤ (rd Ty.pair ps t).1 ∧ (rd Ty.pair ps t).1 < (↑a.length : Int))
            (Rq ((0 : Int) ≤ (rd Ty.pair ps t).2 ∧ (rd Ty.pair ps t).2 < (↑b.length : Int))
              (Rq
                (okSc k (rd Ty.node a (rd Ty.pair ps t).1).6 (rd Ty.node b (rd Ty.pair ps t).2).6
                    (way ++ [(rd Ty.pair ps t).2])
                    (out ++ delsI a way at_ (rd Ty.pair ps t).1 i ++ inssI b way (rd Ty.pair ps t).2 j ++
                        attE
                          (Nd.mk (rd Ty.node a (rd Ty.pair ps t).1).1 (rd Ty.node a (rd Ty.pair ps t).1).2
                            (rd Ty.node a (rd Ty.pair ps t).1).3 (rd Ty.node a (rd Ty.pair ps t).1).4
                            (rd Ty.node a (rd Ty.pair ps t).1).5 (rd Ty.node a (rd Ty.pair ps t).1).6)
                          (Nd.mk (rd Ty.node b (rd Ty.pair ps t).2).1 (rd Ty.node b (rd Ty.pair ps t).2).2
                            (rd Ty.node b (rd Ty.pair ps t).2).3 (rd Ty.node b (rd Ty.pair ps t).2).4
                            (rd Ty.node b (rd Ty.pair ps t).2).5 (rd Ty.node b (rd Ty.pair ps t).2).6)
                          (way ++ [(rd Ty.pair ps t).2]) ++
                      txtE
                        (Nd.mk (rd Ty.node a (rd Ty.pair ps t).1).1 (rd Ty.node a (rd Ty.pair ps t).1).2
                          (rd Ty.node a (rd Ty.pair ps t).1).3 (rd Ty.node a (rd Ty.pair ps t).1).4
                          (rd Ty.node a (rd Ty.pair ps t).1).5 (rd Ty.node a (rd Ty.pair ps t).1).6)
                        (Nd.mk (rd Ty.node b (rd Ty.pair ps t).2).1 (rd Ty.node b (rd Ty.pair ps t).2).2
                          (rd Ty.node b (rd Ty.pair ps t).2).3 (rd Ty.node b (rd Ty.pair ps t).2).4
                          (rd Ty.node b (rd Ty.pair ps t).2).5 (rd Ty.node b (rd Ty.pair ps t).2).6)
                        (way ++ [(rd Ty.pair ps t).2])) ∧
                  ((out ++ delsI a way at_ (rd Ty.pair ps t).1 i ++ inssI b way (rd Ty.pair ps t).2 j).length +
                          (2 : Nat)) *
                        (224 : Nat) ≤
                      maxSl ∧
                    (way.length + (1 : Nat)) * (8 : Nat) ≤ maxSl ∧
                      wtNd
                            (Nd.mk (rd Ty.node a (rd Ty.pair ps t).1).1 (rd Ty.node a (rd Ty.pair ps t).1).2
                              (rd Ty.node a (rd Ty.pair ps t).1).3 (rd Ty.node a (rd Ty.pair ps t).1).4
                              (rd Ty.node a (rd Ty.pair ps t).1).5 (rd Ty.node a (rd Ty.pair ps t).1).6) ≤
                          wtMx ∧
                        wtNd
                            (Nd.mk (rd Ty.node b (rd Ty.pair ps t).2).1 (rd Ty.node b (rd Ty.pair ps t).2).2
                              (rd Ty.node b (rd Ty.pair ps t).2).3 (rd Ty.node b (rd Ty.pair ps t).2).4
                              (rd Ty.node b (rd Ty.pair ps t).2).5 (rd Ty.node b (rd Ty.pair ps t).2).6) ≤
                          wtMx)
                (K Ex.norm
                  [AV.ptr (0 : Nat) (0 : Nat), AV.row Ty.node a, AV.row Ty.node b, AV.row Ty.int way,
                    AV.int IntKind.i64 (IntKind.i64.wrap ((rd Ty.pair ps t).1 + (1 : Int))),
                    AV.int IntKind.i64 (IntKind.i64.wrap ((rd Ty.pair ps t).2 + (1 : Int))),
                    AV.int IntKind.i64 (IntKind.i64.wrap ((rd Ty.pair ps t).2 + (1 : Int))), AV.row Ty.pair ps,
                    AV.int IntKind.i64 m, AV.int IntKind.i64 (IntKind.i64.wrap (t + (1 : Int)))]
                  [Blk.box [AV.own ((0 : Nat) + (1 : Nat)) (0 : Nat)],
                    Blk.rowb (0 : Nat) Ty.edit
                      (out ++ delsI a way at_ (rd Ty.pair ps t).1 i ++ inssI b way (rd Ty.pair ps t).2 j ++
                        alikeE (scriptF k)
                          (Nd.mk (rd Ty.node a (rd Ty.pair ps t).1).1 (rd Ty.node a (rd Ty.pair ps t).1).2
                            (rd Ty.node a (rd Ty.pair ps t).1).3 (rd Ty.node a (rd Ty.pair ps t).1).4
                            (rd Ty.node a (rd Ty.pair ps t).1).5 (rd Ty.node a (rd Ty.pair ps t).1).6)
                          (Nd.mk (rd Ty.node b (rd Ty.pair ps t).2).1 (rd Ty.node b (rd Ty.pair ps t).2).2
                            (rd Ty.node b (rd Ty.pair ps t).2).3 (rd Ty.node b (rd Ty.pair ps t).2).4
                            (rd Ty.node b (rd Ty.pair ps t).2).5 (rd Ty.node b (rd Ty.pair ps t).2).6)
                          (way ++ [(rd Ty.pair ps t).2]))]))))
          (K Ex.norm
            [AV.ptr (0 : Nat) (0 : Nat), AV.row Ty.node a, AV.row Ty.node b, AV.row Ty.int way,
              AV.int IntKind.i64 (IntKind.i64.wrap ((rd Ty.pair ps t).1 + (1 : Int))),
              AV.int IntKind.i64 (IntKind.i64.wrap ((rd Ty.pair ps t).2 + (1 : Int))),
              AV.int IntKind.i64 (IntKind.i64.wrap ((rd Ty.pair ps t).2 + (1 : Int))), AV.row Ty.pair ps,
              AV.int IntKind.i64 m, AV.int IntKind.i64 (IntKind.i64.wrap (t + (1 : Int)))]
            [Blk.box [AV.own ((0 : Nat) + (1 : Nat)) (0 : Nat)],
              Blk.rowb (0 : Nat) Ty.edit
                (out ++ delsI a way at_ (rd Ty.pair ps t).1 i ++ inssI b way (rd Ty.pair ps t).2 j)])))))
  (K (Ex.exit (0 : Nat)) [AV.ptr (0 : Nat) (0 : Nat)]
    [Blk.box [AV.own ((0 : Nat) + (1 : Nat)) (0 : Nat)], Blk.rowb (0 : Nat) Ty.edit out])) := by kernel_rfl
theorem vcLstF (k : Nat) (a b : List Nd) (way : List Int) (out : List Ed) (Q : List AV → List Blk → List Blk → Prop) : (funA (cxLst k) (LL Try.f54 (lssLst k)) Try.f54 [.ptr 0 0, .row .node a, .row .node b, .row .int way] [.box [.own 1 0], .rowb 0 .edit out] [] Q) = (
Rq
  ((a.length + b.length + (2 : Nat)) * (24 : Nat) ≤ maxSl ∧
    (∀ (n : Nd), n ∈ a → PKey n) ∧ ∀ (n : Nd), n ∈ b → PKey n)
  (Rq (((pairsS a b).length + [Pr.mk (↑a.length : Int) (↑b.length : Int) true].length) * (24 : Nat) ≤ maxSl)
    (Gv (a.length ≤ maxSl)
      (Gv (b.length ≤ maxSl)
        (Gv ((pairsS a b ++ [Pr.mk (↑a.length : Int) (↑b.length : Int) true]).length ≤ maxSl)
          (Rq
            ((↑(pairsS a b ++ [Pr.mk (↑a.length : Int) (↑b.length : Int) true]).length : Int) =
                (↑(pairsS a b ++ [Pr.mk (↑a.length : Int) (↑b.length : Int) true]).length : Int) ∧
              (0 : Int) = (0 : Int) ∧
                (0 : Int) = (0 : Int) ∧
                  (0 : Int) = (0 : Int) ∧
                    (0 : Int) = (0 : Int) ∧
                      okSc (k + (1 : Nat)) a b way out ∧
                        pairsS a b ++ [Pr.mk (↑a.length : Int) (↑b.length : Int) true] = endsP a b)
            (Q []
              [Blk.box [AV.own ((0 : Nat) + (1 : Nat)) (0 : Nat)],
                Blk.rowb (0 : Nat) Ty.edit
                  (out ++
                    genI (scriptF k) a b way (pairsS a b ++ [Pr.mk (↑a.length : Int) (↑b.length : Int) true]) (0 : Int)
                      (0 : Int))]
              []))))))) := by kernel_rfl
theorem vcScriptF (a b : List Nd) (Q : List AV → List Blk → List Blk → Prop) : (funA cxScript (LL Try.f28 []) Try.f28 [.row .node a, .row .node b] [] [.own .edit] Q) = (
Rq (okSc (dpNds a + (1 : Nat)) a b [] [])
  (Q [AV.own (0 : Nat) (0 : Nat)] [] [Blk.rowb (0 : Nat) Ty.edit (scriptS a b [])])) := by kernel_rfl
end Go.Proofs.Ytmkjjopflncedaa.AX
end
section
namespace Go.Proofs.Ytmkjjopflncedaa.AX
open Go AXP
set_option maxRecDepth 100000
theorem delsI_end (a : List Nd) (way : List Int) (t p : Int) : delsI a way t p p = [] := by unfold delsI; rw [Nat.sub_self]; rfl
theorem inssI_end (b : List Nd) (way : List Int) (p : Int) : inssI b way p p = [] := by unfold inssI; rw [Nat.sub_self]; rfl
theorem delsI_step (a : List Nd) (way : List Int) {t p : Int} {i : Nat} (ht : 0 ≤ t) (h : (i : Int) < p) : delsI a way t p i = ⟨2, way ++ [t], a.getD i default, default⟩ :: delsI a way t p ((i + 1 : Nat) : Int) := by
  unfold delsI
  simp only [Int.toNat_natCast]
  obtain ⟨n, hn⟩ : ∃ n, p.toNat - i = n + 1 := ⟨p.toNat - i - 1, by omega⟩
  rw [hn, delsE, show p.toNat - (i + 1) = n by omega, Int.toNat_of_nonneg ht]
theorem inssI_step (b : List Nd) (way : List Int) {p : Int} {j : Nat} (h : (j : Int) < p) : inssI b way p j = ⟨1, way ++ [(j : Int)], default, b.getD j default⟩ :: inssI b way p ((j + 1 : Nat) : Int) := by
  unfold inssI
  simp only [Int.toNat_natCast]
  obtain ⟨n, hn⟩ : ∃ n, p.toNat - j = n + 1 := ⟨p.toNat - j - 1, by omega⟩
  rw [hn, inssE, show p.toNat - (j + 1) = n by omega]
theorem wt_def : wtNd (Nd.mk (0 : Int) (0 : Int) (ByteArray.mk (Array.mk [])) [] (ByteArray.mk (Array.mk [])) []) ≤ wtMx := by decide
theorem wtD {a : List Nd} {i : Nat} (h : i < a.length) (hw : wtNds a ≤ wtMx) : wtNd (a.getD i default) ≤ wtMx := Nat.le_trans (wt_mem (getD_mem h)) hw
theorem len_sl {a : List Nd} (h : wtNds a ≤ wtMx) : a.length ≤ maxSl := Nat.le_trans (wt_len a) (Nat.le_trans h (by unfold wtMx maxSl; decide))
theorem lstD_sum (k : Nat) : SumOK (cxLst k) (LL Try.f54 (lssLst k)) Try.f54.ntmps (loopAt Try.f54 1).1 (loopAt Try.f54 1).2 lsLstD := by
  intro vs bs K hs
  unfold lsLstD at hs
  simp only at hs
  split at hs
  case h_2 => exact hs.elim
  rename_i a b way i j at_ ps m t pa pb pw out
  obtain ⟨⟨hi0, hip, hpa, ht, ho, hw, hwt⟩, h⟩ := hs
  rcases (show ∃ w : List Nd, w = a from ⟨_, rfl⟩) with ⟨a, rfl⟩
  rcases (show ∃ w : List Nd, w = b from ⟨_, rfl⟩) with ⟨b, rfl⟩
  rcases (show ∃ w : List Int, w = way from ⟨_, rfl⟩) with ⟨way, rfl⟩
  rcases (show ∃ w : List Pr, w = ps from ⟨_, rfl⟩) with ⟨ps, rfl⟩
  rcases (show ∃ w : List Ed, w = out from ⟨_, rfl⟩) with ⟨out, rfl⟩
  obtain ⟨i, rfl⟩ := Int.eq_ofNat_of_zero_le hi0
  refine sum_rec (σ := Nat × List Ed) (fun s => [.ptr 0 0, .row .node a, .row .node b, .row .int way, .int .i64 (s.1 : Nat), .int .i64 j, .int .i64 at_, .ptr 1 0, .row .pair ps, .int .i64 m, .int .i64 t]) (fun s => [.box [.own 2 0], .box [.int .i64 pa, .int .i64 pb, .bool pw], .rowb 0 .edit s.2])
    (fun s => (s.1 : Int) ≤ pa ∧ s.2.length + (pa.toNat - s.1) ≤ roomMx ∧ K (.exit 2) [.ptr 0 0, .row .node a, .row .node b, .row .int way, .int .i64 pa, .int .i64 j, .int .i64 at_, .ptr 1 0, .row .pair ps, .int .i64 m, .int .i64 t] [.box [.own 2 0], .box [.int .i64 pa, .int .i64 pb, .bool pw], .rowb 0 .edit (s.2 ++ delsI a way at_ pa s.1)])
    (fun s => a.length - s.1) ?_ (i, out) ⟨hip, ho, h⟩
  rintro ⟨i, out⟩ ⟨hi, ho, hK⟩ R hR
  dsimp only at hi ho hK hR ⊢
  refine Eq.mpr (vcLstD k a b way i j at_ pa pb m t pw ps out _) ⟨fun h1 => ?_, fun h1 => ?_⟩
  · have h1 : (i : Int) < pa := of_decide_eq_true h1
    have hia : i < a.length := by omega
    rw [delsI_step a way ht h1] at hK
    rw [wrap_succ hia (len_sl hwt), rd_ndD hia, nd_eta]
    refine ⟨⟨by omega, by omega⟩, ⟨⟨room_le (by omega), way_le (by omega), wtD hia hwt, wt_def⟩, ?_⟩⟩
    refine hR (i + 1, out ++ [⟨2, way ++ [at_], a.getD i default, default⟩]) ⟨by dsimp only; omega, by dsimp only; rw [List.length_append, List.length_cons, List.length_nil]; omega, ?_⟩ (by dsimp only; omega)
    dsimp only
    rw [List.append_assoc]; exact hK
  · have h1 : ¬ (i : Int) < pa := of_decide_eq_false h1
    have e : pa = (i : Int) := by omega
    subst e
    rw [delsI_end, List.append_nil] at hK
    exact hK
theorem lstI_sum (k : Nat) : SumOK (cxLst k) (LL Try.f54 (lssLst k)) Try.f54.ntmps (loopAt Try.f54 2).1 (loopAt Try.f54 2).2 lsLstI := by
  intro vs bs K hs
  unfold lsLstI at hs
  simp only at hs
  split at hs
  case h_2 => exact hs.elim
  rename_i a b way i j at_ ps m t pa pb pw out
  obtain ⟨⟨hj0, rfl, hjp, hpb, ho, hw, hwt⟩, h⟩ := hs
  rcases (show ∃ w : List Nd, w = a from ⟨_, rfl⟩) with ⟨a, rfl⟩
  rcases (show ∃ w : List Nd, w = b from ⟨_, rfl⟩) with ⟨b, rfl⟩
  rcases (show ∃ w : List Int, w = way from ⟨_, rfl⟩) with ⟨way, rfl⟩
  rcases (show ∃ w : List Pr, w = ps from ⟨_, rfl⟩) with ⟨ps, rfl⟩
  rcases (show ∃ w : List Ed, w = out from ⟨_, rfl⟩) with ⟨out, rfl⟩
  obtain ⟨j, rfl⟩ := Int.eq_ofNat_of_zero_le hj0
  refine sum_rec (σ := Nat × List Ed) (fun s => [.ptr 0 0, .row .node a, .row .node b, .row .int way, .int .i64 i, .int .i64 (s.1 : Nat), .int .i64 (s.1 : Nat), .ptr 1 0, .row .pair ps, .int .i64 m, .int .i64 t]) (fun s => [.box [.own 2 0], .box [.int .i64 pa, .int .i64 pb, .bool pw], .rowb 0 .edit s.2])
    (fun s => (s.1 : Int) ≤ pb ∧ s.2.length + (pb.toNat - s.1) ≤ roomMx ∧ K (.exit 4) [.ptr 0 0, .row .node a, .row .node b, .row .int way, .int .i64 i, .int .i64 pb, .int .i64 pb, .ptr 1 0, .row .pair ps, .int .i64 m, .int .i64 t] [.box [.own 2 0], .box [.int .i64 pa, .int .i64 pb, .bool pw], .rowb 0 .edit (s.2 ++ inssI b way pb s.1)])
    (fun s => b.length - s.1) ?_ (j, out) ⟨hjp, ho, h⟩
  rintro ⟨j, out⟩ ⟨hi, ho, hK⟩ R hR
  dsimp only at hi ho hK hR ⊢
  refine Eq.mpr (vcLstI k a b way i j j pa pb m t pw ps out _) ⟨fun h1 => ?_, fun h1 => ?_⟩
  · have h1 : (j : Int) < pb := of_decide_eq_true h1
    have hjb : j < b.length := by omega
    rw [inssI_step b way h1] at hK
    rw [wrap_succ hjb (len_sl hwt), rd_ndD hjb, nd_eta]
    refine ⟨⟨by omega, by omega⟩, ⟨⟨room_le (by omega), way_le (by omega), wt_def, wtD hjb hwt⟩, ?_⟩⟩
    refine hR (j + 1, out ++ [⟨1, way ++ [(j : Int)], default, b.getD j default⟩]) ⟨by dsimp only; omega, by dsimp only; rw [List.length_append, List.length_cons, List.length_nil]; omega, ?_⟩ (by dsimp only; omega)
    dsimp only
    rw [List.append_assoc]; exact hK
  · have h1 : ¬ (j : Int) < pb := of_decide_eq_false h1
    have e : pb = (j : Int) := by omega
    subst e
    rw [inssI_end, List.append_nil] at hK
    exact hK
theorem ends_len (a b : List Nd) : (endsP a b).length ≤ a.length + 1 := by
  have := riseL_len (pairs_rise a b) (Nat.zero_le _)
  unfold endsP
  rw [List.length_append, List.length_cons, List.length_nil]; omega
theorem wrap_le {x n : Nat} (h : x ≤ n) (hn : n ≤ maxSl) : IntKind.i64.wrap ((x : Int) + 1) = ((x + 1 : Nat) : Int) := by
  unfold maxSl at hn
  rw [wrap_id'] <;> omega
theorem lstO_sum (k : Nat) : SumOK (cxLst k) (LL Try.f54 (lssLst k)) Try.f54.ntmps (loopAt Try.f54 0).1 (loopAt Try.f54 0).2 (lsLstO k) := by
  intro vs bs K hs
  unfold lsLstO at hs
  simp only at hs
  split at hs
  case h_2 => exact hs.elim
  rename_i a b way i j at_ ps m t out
  obtain ⟨⟨rfl, rfl, rfl, rfl, rfl, hok, hps⟩, h⟩ := hs
  rcases (show ∃ w : List Nd, w = a from ⟨_, rfl⟩) with ⟨a, rfl⟩
  rcases (show ∃ w : List Nd, w = b from ⟨_, rfl⟩) with ⟨b, rfl⟩
  rcases (show ∃ w : List Int, w = way from ⟨_, rfl⟩) with ⟨way, rfl⟩
  rcases (show ∃ w : List Pr, w = ps from ⟨_, rfl⟩) with ⟨ps, rfl⟩
  rcases (show ∃ w : List Ed, w = out from ⟨_, rfl⟩) with ⟨out, rfl⟩
  have hwa : wtNds a ≤ wtMx := hok.2.2.2.2.2.1
  have hwb : wtNds b ≤ wtMx := hok.2.2.2.2.2.2.1
  have hw : way.length + 1 ≤ roomMx := by have := hok.2.2.2.2.2.2.2.1; omega
  have hrm := hok.2.2.2.2.2.2.2.2
  have hla := len_sl hwa
  have hlb := len_sl hwb
  have hpl : ps.length ≤ maxSl := by
    have h1 := ends_len a b
    rw [← hps] at h1
    have := wt_len a
    unfold wtMx at hwa; unfold maxSl; omega
  have hri : RiseX a.length b.length 0 0 ps := by rw [hps]; exact rise_ends (pairs_rise a b) (Nat.zero_le _) (Nat.zero_le _)
  clear hps
  refine sum_rec (σ := Nat × Nat × Nat × List Ed) (fun s => [.ptr 0 0, .row .node a, .row .node b, .row .int way, .int .i64 (s.2.1 : Nat), .int .i64 (s.2.2.1 : Nat), .int .i64 (s.2.2.1 : Nat), .row .pair ps, .int .i64 ps.length, .int .i64 (s.1 : Nat)]) (fun s => [.box [.own 1 0], .rowb 0 .edit s.2.2.2])
    (fun s => RiseX a.length b.length s.2.1 s.2.2.1 (ps.drop s.1) ∧ s.2.2.2.length + 3 * (wtNds (a.drop s.2.1) + wtNds (b.drop s.2.2.1)) ≤ roomMx ∧ K (.exit 0) [.ptr 0 0] [.box [.own 1 0], .rowb 0 .edit (s.2.2.2 ++ genI (scriptF k) a b way (ps.drop s.1) s.2.1 s.2.2.1)])
    (fun s => ps.length - s.1) ?_ (0, 0, 0, out) ⟨hri, hrm, h⟩
  rintro ⟨t, i, j, out⟩ ⟨hr, ho, hK⟩ R hR
  dsimp only at hr ho hK hR ⊢
  refine Eq.mpr (vcLstO k a b way i j j ps.length t ps out _) ⟨fun h1 => ?_, fun h1 => ?_⟩
  · have h1 : (t : Int) < (ps.length : Int) := of_decide_eq_true h1
    have hip : t < ps.length := by omega
    rw [List.drop_eq_getElem_cons hip] at hr hK
    rw [rd_pair hip, wrap_succ hip hpl]
    generalize ps[t] = p at hr hK ⊢
    obtain ⟨pa, pb, pw⟩ := p
    obtain ⟨r1, r2, r3, r4, r5, r6⟩ := hr
    rw [genI] at hK
    dsimp only at r1 r2 r3 r4 r5 r6 hK ⊢
    obtain ⟨x, rfl⟩ := Int.eq_ofNat_of_zero_le (show 0 ≤ pa by omega)
    obtain ⟨y, rfl⟩ := Int.eq_ofNat_of_zero_le (show 0 ≤ pb by omega)
    have hx : x ≤ a.length := by omega
    have hy : y ≤ b.length := by omega
    have a1 := wt_drop_ge a (show i ≤ x by omega) hx
    have b1 := wt_drop_ge b (show j ≤ y by omega) hy
    have hdl : (delsI a way j x i).length = x - i := by unfold delsI; rw [delsE_len]; simp
    have hil : (inssI b way y j).length = y - j := by unfold inssI; rw [inssE_len]; simp
    rw [wrap_le hx hla, wrap_le hy hlb]
    generalize delsI a way j x i = D at hdl hK ⊢
    generalize inssI b way y j = N at hil hK ⊢
    refine Rq.mk ⟨by omega, h1⟩ ?_
    refine Rq.mk ⟨by omega, r1, r3, by omega, by simp only [Int.toNat_natCast]; omega, hw, hwa⟩ ?_
    refine Rq.mk ⟨by omega, rfl, r2, r4, by simp only [Int.toNat_natCast, List.length_append]; omega, hw, hwb⟩ ?_
    refine ⟨fun h2 => ?_, fun h2 => ?_⟩
    · have h2 : pw = false := by cases pw <;> simp_all
      subst h2
      obtain ⟨s1, s2⟩ := r5 rfl
      have hxa : x < a.length := by omega
      have hyb : y < b.length := by omega
      rw [if_neg (by decide)] at hK
      rw [rd_ndD hxa, rd_ndD hyb] at hK ⊢
      rw [nd_eta, nd_eta]
      have al := alikeE_len (r := scriptF k) (x := a.getD x default) (y := b.getD y default) (w := way ++ [((y : Nat) : Int)]) (scriptF_len k _ _ _)
      have at1 := attE_len (a.getD x default) (b.getD y default) (way ++ [((y : Nat) : Int)])
      have tx1 := txtE_len (a.getD x default) (b.getD y default) (way ++ [((y : Nat) : Int)])
      rw [wt_drop_get a hxa] at a1
      rw [wt_drop_get b hyb] at b1
      have n1 := wtNd_eq (a.getD x default)
      have n2 := wtNd_eq (b.getD y default)
      refine Rq.mk ⟨by omega, s1⟩ ?_
      refine Rq.mk ⟨by omega, s2⟩ ?_
      refine Rq.mk ⟨okSc_kids hok hxa hyb _ (by simp only [List.length_append]; omega), room_le (by simp only [List.length_append]; omega), way_le (by omega), wtD hxa hwa, wtD hyb hwb⟩ ?_
      refine hR (t + 1, x + 1, y + 1, out ++ D ++ N ++ alikeE (scriptF k) (a.getD x default) (b.getD y default) (way ++ [((y : Nat) : Int)])) ⟨r6, ?_, ?_⟩ (by dsimp only; omega)
      · dsimp only; rw [List.length_append, List.length_append, List.length_append]; omega
      · dsimp only; simp only [List.append_assoc] at hK ⊢; exact hK
    · have h2 : pw = true := by cases pw <;> simp_all
      subst h2
      rw [if_pos rfl, List.append_nil] at hK
      have a2 := wt_drop_le a x
      have b2 := wt_drop_le b y
      refine hR (t + 1, x + 1, y + 1, out ++ D ++ N) ⟨r6, ?_, ?_⟩ (by dsimp only; omega)
      · dsimp only; rw [List.length_append, List.length_append]; omega
      · dsimp only; simp only [List.append_assoc] at hK ⊢; exact hK
  · have h1 : ¬ (t : Int) < (ps.length : Int) := of_decide_eq_false h1
    rw [List.drop_of_length_le (by omega), genI, List.append_nil] at hK
    exact hK
theorem lst_lt : ∀ k, Holds 54 (conLstLt k)
  | 0 => by
    intro args hp ans hc
    unfold conLstLt at hc
    split at hc
    case h_2 => cases hc
    rename_i x y z out
    simp only [Option.bind_eq_some_iff] at hc
    obtain ⟨a, hx, b, hy, way, hz, hc⟩ := hc
    injection hc with hc
    subst hc
    intro F I w vals hH hv hpre
    exact absurd (hpre _ rfl).1 (Nat.not_lt_zero _)
  | k + 1 => by
    intro args hp ans hc
    unfold conLstLt at hc
    split at hc
    case h_2 => cases hc
    rename_i x y z out
    simp only [Option.bind_eq_some_iff] at hc
    obtain ⟨a, hx, b, hy, way, hz, hc⟩ := hc
    injection hc with hc
    subst hc
    refine Meets.weaken (args' := [.ptr 0 0, .row .node a, .row .node b, .row .int way]) (.cons (.refl _) (.cons (rowOf_le hx) (.cons (rowOf_le hy) (.cons (rowOf_le hz) .nil)))) ?_
    refine fun_meetsL (AllH.tok (.cons lists_holds (by kernel_rfl) (.cons add_holds (by kernel_rfl) (.cons (alk_of (lst_lt k)) (by kernel_rfl) .nil)))) [] (lssLst k) (by kernel_rfl) (by kernel_rfl) (fun i z hz => by
      match i, hz with
      | 0, hz => simp [lssLst] at hz; subst hz; exact lstO_sum k
      | 1, hz => simp [lssLst] at hz; subst hz; exact lstD_sum k
      | 2, hz => simp [lssLst] at hz; subst hz; exact lstI_sum k
      | i + 3, hz => simp [lssLst] at hz) fun hpre => Eq.mpr (vcLstF k a b way out _) ?_
    rcases (show ∃ w : List Nd, w = a from ⟨_, rfl⟩) with ⟨a, rfl⟩
    rcases (show ∃ w : List Nd, w = b from ⟨_, rfl⟩) with ⟨b, rfl⟩
    have hok : okSc (k + 1) a b way out := hpre _ rfl
    have hok' := hok
    obtain ⟨g1, g2, g3, g4, g5, g6, g7, g8, g9⟩ := hok
    have la := wt_len a
    have lb := wt_len b
    have pl := riseL_len (pairs_rise a b) (Nat.zero_le _)
    have m1 : (a.length + b.length + 2) * 24 ≤ maxSl := by
      have : a.length + b.length + 2 ≤ 200000000002 := by unfold wtMx at g6 g7; omega
      exact Nat.le_trans (Nat.mul_le_mul_right _ this) (by unfold maxSl; decide)
    have m2 : ((pairsS a b).length + [Pr.mk (a.length : Int) (b.length : Int) true].length) * 24 ≤ maxSl := by
      refine Nat.le_trans (Nat.mul_le_mul_right _ ?_) m1
      rw [List.length_cons, List.length_nil]; omega
    refine ⟨⟨m1, pkey_of g2 g4, pkey_of g3 g5⟩, ⟨m2, ⟨fun _ => ⟨fun _ => ⟨fun _ => ⟨⟨rfl, rfl, rfl, rfl, rfl, hok', rfl⟩, qfin rfl rfl ?_ rfl⟩⟩⟩⟩⟩⟩
    show _ = [Blk.box [.own 1 0], Blk.rowb 0 .edit (out ++ scriptF (k + 1) a b way)]
    have e := genI_ends (r := scriptF k) (way := way) (i := 0) (j := 0) (pairs_rise a b)
    rw [scriptF, ← e]
    rfl
theorem lst_holds : Holds 54 conLst := by
  intro args hp ans hc
  unfold conLst at hc
  split at hc
  case h_2 => cases hc
  rename_i x y z out
  simp only [Option.bind_eq_some_iff] at hc
  obtain ⟨a, hx, b, hy, way, hz, hc⟩ := hc
  injection hc with hc
  subst hc
  exact lst_lt (dpNds a + 1) _ _ _ (by unfold conLstLt; simp only [hx, hy, hz, Option.bind_some]; rfl)
theorem script_holds : Holds 28 conScript := conP_holds fun a b => by
  refine fun_meets0 (AllH.tok (.cons lst_holds (by kernel_rfl) .nil)) [.own .edit] (by kernel_rfl) (by kernel_rfl) fun hpre => Eq.mpr (vcScriptF a b _) ?_
  exact ⟨hpre _ rfl, qfin rfl rfl rfl rfl⟩
end Go.Proofs.Ytmkjjopflncedaa.AX
end
section
namespace Go.Proofs.Ytmkjjopflncedaa.AXP
open Go Go.Proofs.Ytmkjjopflncedaa.AX
theorem atP_mem : ∀ {l : List Pr} {i : Int}, (atP l i).b ≥ 0 → atP l i ∈ l
  | [], i, h => by
    have h : (-1 : Int) ≥ 0 := h
    omega
  | p :: l, i, h => by
    rw [atP] at h ⊢
    by_cases e : (p.a == i) = true
    · rw [if_pos e]; exact .head _
    · rw [if_neg e] at h ⊢; exact .tail _ (atP_mem h)
theorem toP_le : ∀ {l : List Pr} {i to : Int}, toP l i to ≤ to
  | [], _, _ => Int.le_refl _
  | p :: l, i, to => by
    rw [toP]
    have h2 : (if p.a > i ∧ p.b < to then p.b else to) ≤ to := by split <;> omega
    exact Int.le_trans toP_le h2
end Go.Proofs.Ytmkjjopflncedaa.AXP
namespace Go.Proofs.Ytmkjjopflncedaa.AX
open Go AXP
set_option maxRecDepth 100000
theorem L2_sum : SumOK cxL20 (LL Try.f55 [lsL1, lsL2, lsL3]) Try.f55.ntmps (loopAt Try.f55 1).1 (loopAt Try.f55 1).2 lsL2 := by
  intro vs bs K hs
  unfold lsL2 at hs
  simp only at hs
  split at hs
  case h_2 => exact hs.elim
  rename_i b wh fr i' to a m i wk mk k out c0 c1 c2 c3 c4 c5
  obtain ⟨⟨rfl, rfl, hl⟩, h⟩ := hs
  rcases (show ∃ w : List Pr, w = wk from ⟨_, rfl⟩) with ⟨wk, rfl⟩
  refine sum_rec (σ := Nat × Int) (fun s => [.row .node b, .row .rpair wh, .own 0 0, .int .i64 fr, .int .i64 i', .ptr 1 0, .int .i64 s.2, .row .node a, .int .i64 m, .int .i64 i, .row .rpair wk, .int .i64 wk.length, .int .i64 (s.1 : Nat)]) (fun _ => [.rowb 0 .rpair out, .box [.int .i64 c0, .int .i64 c1, .str c2, .row .attr c3, .str c4, .row .node c5]])
    (fun s => s.1 ≤ wk.length ∧ toP wk i' to = toP (wk.drop s.1) i' s.2) (fun s => wk.length - s.1) ?_ (0, to) ⟨Nat.zero_le _, by rw [List.drop_zero]⟩
  rintro ⟨k, t⟩ ⟨hk, e⟩ R hR
  dsimp only at hk e hR ⊢
  refine Eq.mpr (vcL2 a b wh wk out fr i' t m i wk.length k c0 c1 c2 c4 c3 c5 _) ⟨fun h1 => ?_, fun h1 => ?_⟩
  · have h1 : (k : Int) < (wk.length : Int) := of_decide_eq_true h1
    have hka : k < wk.length := by omega
    rw [List.drop_eq_getElem_cons hka, toP] at e
    rw [rd_rpair hka, wrap_succ hka hl]
    refine Rq.mk ⟨by omega, h1⟩ ⟨fun h2 => ⟨fun h3 => ?_, fun h3 => ?_⟩, fun h2 => ?_⟩
    · rw [if_pos ⟨of_decide_eq_true h2, of_decide_eq_true h3⟩] at e
      exact hR (k + 1, wk[k].b) ⟨hka, e⟩ (by dsimp only; omega)
    · rw [if_neg fun c => absurd c.2 (of_decide_eq_false h3)] at e
      exact hR (k + 1, t) ⟨hka, e⟩ (by dsimp only; omega)
    · rw [if_neg fun c => absurd c.1 (of_decide_eq_false h2)] at e
      exact hR (k + 1, t) ⟨hka, e⟩ (by dsimp only; omega)
  · have h1 : ¬ (k : Int) < (wk.length : Int) := of_decide_eq_false h1
    rw [List.drop_of_length_le (by omega), toP] at e
    rw [e] at h
    exact h
theorem L3_sum : SumOK cxL20 (LL Try.f55 [lsL1, lsL2, lsL3]) Try.f55.ntmps (loopAt Try.f55 2).1 (loopAt Try.f55 2).2 lsL3 := by
  intro vs bs K hs
  unfold lsL3 at hs
  simp only at hs
  split at hs
  case h_2 => exact hs.elim
  rename_i b wh fr i' to j a m i out c0 c1 c2 c3 c4 c5
  obtain ⟨⟨hj, hto, hlb, ho⟩, h⟩ := hs
  rcases (show ∃ w : List Nd, w = b from ⟨_, rfl⟩) with ⟨b, rfl⟩
  obtain ⟨j, rfl⟩ := Int.eq_ofNat_of_zero_le hj
  refine sum_rec (σ := Nat) (fun j => [.row .node b, .row .rpair wh, .own 0 0, .int .i64 fr, .int .i64 i', .ptr 1 0, .int .i64 to, .int .i64 (j : Nat), .row .node a, .int .i64 m, .int .i64 i]) (fun _ => [.rowb 0 .rpair out, .box [.int .i64 c0, .int .i64 c1, .str c2, .row .attr c3, .str c4, .row .node c5]])
    (fun j => Br (hasN2 ⟨c0, c1, c2, c3, c4, c5⟩ b to j)
          (K (.exit 4) [.row .node b, .row .rpair wh, .own 0 0, .int .i64 (getN2 ⟨c0, c1, c2, c3, c4, c5⟩ b to j + 1), .row .node a, .int .i64 m, .int .i64 i] [.rowb 0 .rpair (out ++ [⟨i', getN2 ⟨c0, c1, c2, c3, c4, c5⟩ b to j, false⟩])])
          (K (.exit 4) [.row .node b, .row .rpair wh, .own 0 0, .int .i64 fr, .row .node a, .int .i64 m, .int .i64 i] [.rowb 0 .rpair out]))
    (fun j => to.toNat - j) ?_ j h
  intro j hP R hR
  refine Eq.mpr (vcL3 a b wh out fr i' to j m i c0 c1 c2 c4 c3 c5 _) ⟨fun h1 => ?_, fun h1 => ?_⟩
  · have h1 : (j : Int) < to := of_decide_eq_true h1
    have hjb : j < b.length := by omega
    obtain ⟨f, hf⟩ : ∃ f, to.toNat - j = f + 1 := ⟨to.toNat - j - 1, by omega⟩
    rw [rd_ndD hjb, nd_eta, wrap_succ hjb hlb]
    refine Rq.mk ⟨by omega, by omega⟩ ⟨fun h2 => Rq.mk (by simp only [List.length_cons, List.length_nil]; omega) ?_, fun h2 => ?_⟩
    · have hh : nxtJ ⟨c0, c1, c2, c3, c4, c5⟩ b to j = some j := by unfold nxtJ; rw [Int.toNat_natCast, hf, findJ, if_pos h2]
      have e1 : hasN2 ⟨c0, c1, c2, c3, c4, c5⟩ b to j = true := by unfold hasN2; rw [hh]; rfl
      have e2 : getN2 ⟨c0, c1, c2, c3, c4, c5⟩ b to j = j := by unfold getN2; rw [hh]; rfl
      have := hP.yes e1
      rw [e2] at this
      exact this
    · have hh : nxtJ ⟨c0, c1, c2, c3, c4, c5⟩ b to j = nxtJ ⟨c0, c1, c2, c3, c4, c5⟩ b to (j + 1 : Nat) := by
        unfold nxtJ; rw [Int.toNat_natCast, Int.toNat_natCast, hf, findJ, if_neg (by rw [h2]; decide), show to.toNat - (j + 1) = f by omega]
      have e1 : hasN2 ⟨c0, c1, c2, c3, c4, c5⟩ b to j = hasN2 ⟨c0, c1, c2, c3, c4, c5⟩ b to (j + 1 : Nat) := by unfold hasN2; rw [hh]
      have e2 : getN2 ⟨c0, c1, c2, c3, c4, c5⟩ b to j = getN2 ⟨c0, c1, c2, c3, c4, c5⟩ b to (j + 1 : Nat) := by unfold getN2; rw [hh]
      rw [e1, e2] at hP
      exact hR (j + 1) hP (by omega)
  · have h1 : ¬ (j : Int) < to := of_decide_eq_false h1
    have e1 : hasN2 ⟨c0, c1, c2, c3, c4, c5⟩ b to j = false := by unfold hasN2 nxtJ; rw [Int.toNat_natCast, show to.toNat - j = 0 by omega]; rfl
    exact hP.no e1
theorem L1_sum : SumOK cxL20 (LL Try.f55 [lsL1, lsL2, lsL3]) Try.f55.ntmps (loopAt Try.f55 0).1 (loopAt Try.f55 0).2 lsL1 := by
  intro vs bs K hs
  unfold lsL1 at hs
  simp only at hs
  split at hs
  case h_2 => exact hs.elim
  rename_i b wh fr a m i out
  obtain ⟨⟨rfl, rfl, rfl, h0, rfl, hsz⟩, h⟩ := hs
  obtain rfl : out = [] := List.eq_nil_of_length_eq_zero h0
  rcases (show ∃ w : List Nd, w = a from ⟨_, rfl⟩) with ⟨a, rfl⟩
  rcases (show ∃ w : List Nd, w = b from ⟨_, rfl⟩) with ⟨b, rfl⟩
  have hla : a.length ≤ maxSl := by omega
  have hlb : b.length ≤ maxSl := by omega
  have e0 : listsR (lN a b) b.length (wholeS a b) a.length 0 0 = pairsS a b := listsR_gaps a.length (pre := []) rfl rfl (fun p hp => nomatch hp) (whole_rise a b) (Nat.zero_le _)
  have hwh : (wholeS a b).length ≤ maxSl := by have := line_len (g := eN a b) (whole_rise a b) (Nat.zero_le _); omega
  refine sum_rec (σ := Nat × Nat × List Pr) (fun s => [.row .node b, .row .rpair (wholeS a b), .own 0 0, .int .i64 (s.2.1 : Nat), .row .node a, .int .i64 a.length, .int .i64 (s.1 : Nat)]) (fun s => [.rowb 0 .rpair s.2.2])
    (fun s => s.1 ≤ a.length ∧ s.2.2.length ≤ s.1 ∧ K (.exit 0) [.own 0 0] [.rowb 0 .rpair (s.2.2 ++ listsR (lN a b) b.length (wholeS a b) (a.length - s.1) s.1 s.2.1)]) (fun s => a.length - s.1) ?_ (0, 0, []) ⟨Nat.zero_le _, Nat.le_refl _, by rw [List.nil_append, Nat.sub_zero, e0]; exact h⟩
  rintro ⟨i, fr, out⟩ ⟨hi, ho, hK⟩ R hR
  dsimp only at hi ho hK hR ⊢
  refine Eq.mpr (vcL1 a b (wholeS a b) out fr a.length i _) ⟨fun h1 => ?_, fun h1 => ?_⟩
  · have h1 : (i : Int) < (a.length : Int) := of_decide_eq_true h1
    have hia : i < a.length := by omega
    obtain ⟨f, hf⟩ : ∃ f, a.length - i = f + 1 := ⟨a.length - i - 1, by omega⟩
    have hf' : f = a.length - (i + 1) := by omega
    rw [hf, listsR_succ] at hK
    rw [rd_ndD hia, nd_eta, wrap_succ hia hla]
    refine Rq.mk ⟨by omega, h1⟩ ⟨fun h2 => Rq.mk (by simp only [List.length_cons, List.length_nil]; omega) ?_, fun h2 => ⟨fun _ => ⟨fun _ => Rq.mk ⟨rfl, rfl, hwh⟩ (Rq.mk ⟨by omega, toP_le, hlb, by omega⟩ ⟨fun h3 => ?_, fun h3 => ?_⟩)⟩⟩⟩
    · have h2 : (atP (wholeS a b) i).b ≥ 0 := of_decide_eq_true h2
      have hb := ((whole_rise a b).mem _ (atP_mem h2)).2.2
      rw [if_pos h2, hf'] at hK
      have ew : IntKind.i64.wrap ((atP (wholeS a b) i).2 + 1) = (((atP (wholeS a b) i).b + 1).toNat : Int) := by
        unfold maxSl at hlb
        rw [wrap_id' (by show _ ≤ (atP (wholeS a b) i).b + 1; omega) (by show (atP (wholeS a b) i).b + 1 < _; omega)]
        show (atP (wholeS a b) i).b + 1 = _
        omega
      rw [ew]
      refine hR (i + 1, ((atP (wholeS a b) i).b + 1).toNat, out ++ [atP (wholeS a b) i]) ⟨hia, by dsimp only; rw [List.length_append, List.length_cons, List.length_nil]; omega, ?_⟩ (by dsimp only; omega)
      dsimp only
      rw [List.append_assoc]; exact hK
    · have h2 : ¬ (atP (wholeS a b) i).b ≥ 0 := of_decide_eq_false h2
      rw [if_neg h2] at hK
      have hh : nxtJ (a.getD i default) b (toP (wholeS a b) i b.length) fr = findJ (lN a b i) ((toP (wholeS a b) i b.length).toNat - fr) fr := rfl
      unfold hasN2 at h3
      rw [hh] at h3
      obtain ⟨j, hj⟩ := Option.isSome_iff_exists.1 h3
      have e2 : getN2 (a.getD i default) b (toP (wholeS a b) i b.length) fr = j := by unfold getN2; rw [hh, hj]; rfl
      rw [hj, hf'] at hK
      rw [e2]
      refine hR (i + 1, j + 1, out ++ [⟨i, j, false⟩]) ⟨hia, by dsimp only; rw [List.length_append, List.length_cons, List.length_nil]; omega, ?_⟩ (by dsimp only; omega)
      dsimp only
      rw [List.append_assoc]; exact hK
    · have h2 : ¬ (atP (wholeS a b) i).b ≥ 0 := of_decide_eq_false h2
      rw [if_neg h2] at hK
      have hh : nxtJ (a.getD i default) b (toP (wholeS a b) i b.length) fr = findJ (lN a b i) ((toP (wholeS a b) i b.length).toNat - fr) fr := rfl
      unfold hasN2 at h3
      rw [hh] at h3
      have hj : findJ (lN a b i) ((toP (wholeS a b) i b.length).toNat - fr) fr = none := by
        cases hq : findJ (lN a b i) ((toP (wholeS a b) i b.length).toNat - fr) fr with
        | none => rfl
        | some j => rw [hq] at h3; cases h3
      rw [hj, hf'] at hK
      exact hR (i + 1, fr, out) ⟨hia, by dsimp only; omega, hK⟩ (by dsimp only; omega)
  · have h1 : ¬ (i : Int) < (a.length : Int) := of_decide_eq_false h1
    rw [show a.length - i = 0 by omega] at hK
    have e : listsR (lN a b) b.length (wholeS a b) 0 i fr = [] := rfl
    rw [e, List.append_nil] at hK
    exact hK
theorem L20_holds : Holds 55 conL20 := conP_holds fun a b => by
  rcases (show ∃ w : List Nd, w = a from ⟨_, rfl⟩) with ⟨a, rfl⟩
  rcases (show ∃ w : List Nd, w = b from ⟨_, rfl⟩) with ⟨b, rfl⟩
  refine fun_meetsL (AllH.tok (.cons wh_holds (by kernel_rfl) (.cons at20_holds (by kernel_rfl) (.cons alk20_holds (by kernel_rfl) .nil)))) [.row .rpair] [lsL1, lsL2, lsL3] (by kernel_rfl) (by kernel_rfl) (fun i z hz => by
    match i, hz with
    | 0, hz => simp at hz; subst hz; exact L1_sum
    | 1, hz => simp at hz; subst hz; exact L2_sum
    | 2, hz => simp at hz; subst hz; exact L3_sum
    | i + 3, hz => simp at hz) fun hpre => Eq.mpr (vcL20F a b _) ?_
  have h : a.length + b.length ≤ 65536 := hpre _ rfl
  exact Rq.mk h ⟨fun _ => Rq.mk ⟨rfl, rfl, rfl, rfl, rfl, by unfold maxSl; omega⟩ (qfin rfl rfl rfl rfl)⟩
theorem step21_holds : Holds 56 conStep21 := conP_holds fun way n => by
  refine fun_meets0 tok0 [.own .int] (by kernel_rfl) (by kernel_rfl) fun hpre => Eq.mpr (vcStep21F way n _) ?_
  rcases (show ∃ w : List Int, w = way from ⟨_, rfl⟩) with ⟨way, rfl⟩
  have h : (way.length + 1) * 8 ≤ maxSl := hpre _ rfl
  exact Rq.mk (by omega) (Rq.mk (by simp only [List.length_cons, List.length_nil]; omega) (qfin rfl rfl rfl rfl))
theorem s2_sum (k : Nat) : SumOK (cxS21 k) (LL Try.f29 (lssS21 k)) Try.f29.ntmps (loopAt Try.f29 1).1 (loopAt Try.f29 1).2 lsS2 := by
  intro vs bs K hs
  unfold lsS2 at hs
  simp only at hs
  split at hs
  case h_2 => exact hs.elim
  rename_i a b way i j at_ ps t out pa pb pw
  obtain ⟨⟨hi0, hip, hpa, ht, ho, hw, hwt⟩, h⟩ := hs
  rcases (show ∃ w : List Nd, w = a from ⟨_, rfl⟩) with ⟨a, rfl⟩
  rcases (show ∃ w : List Nd, w = b from ⟨_, rfl⟩) with ⟨b, rfl⟩
  rcases (show ∃ w : List Int, w = way from ⟨_, rfl⟩) with ⟨way, rfl⟩
  rcases (show ∃ w : List Pr, w = ps from ⟨_, rfl⟩) with ⟨ps, rfl⟩
  rcases (show ∃ w : List Ed, w = out from ⟨_, rfl⟩) with ⟨out, rfl⟩
  obtain ⟨i, rfl⟩ := Int.eq_ofNat_of_zero_le hi0
  refine sum_rec (σ := Nat × List Ed) (fun s => [.row .node a, .row .node b, .row .int way, .own 0 0, .int .i64 (s.1 : Nat), .int .i64 j, .int .i64 at_, .row .rpair ps, .int .i64 t, .ptr 1 0]) (fun s => [.rowb 0 .redit s.2, .box [.int .i64 pa, .int .i64 pb, .bool pw]])
    (fun s => (s.1 : Int) ≤ pa ∧ s.2.length + (pa.toNat - s.1) ≤ roomMx ∧ K (.exit 2) [.row .node a, .row .node b, .row .int way, .own 0 0, .int .i64 pa, .int .i64 j, .int .i64 at_, .row .rpair ps, .int .i64 t, .ptr 1 0] [.rowb 0 .redit (s.2 ++ delsI a way at_ pa s.1), .box [.int .i64 pa, .int .i64 pb, .bool pw]])
    (fun s => a.length - s.1) ?_ (i, out) ⟨hip, ho, h⟩
  rintro ⟨i, out⟩ ⟨hi, ho, hK⟩ R hR
  dsimp only at hi ho hK hR ⊢
  refine Eq.mpr (vcS2 k a b way i j at_ t pa pb pw ps out _) ⟨fun h1 => ?_, fun h1 => ?_⟩
  · have h1 : (i : Int) < pa := of_decide_eq_true h1
    have hia : i < a.length := by omega
    rw [delsI_step a way ht h1] at hK
    rw [wrap_succ hia (len_sl hwt), rd_ndD hia, nd_eta]
    have go : rk K R .norm [.row .node a, .row .node b, .row .int way, .own 0 0, .int .i64 ((i + 1 : Nat) : Int), .int .i64 j, .int .i64 at_, .row .rpair ps, .int .i64 t, .ptr 1 0] [.rowb 0 .redit (out ++ [⟨2, way ++ [at_], a.getD i default, default⟩]), .box [.int .i64 pa, .int .i64 pb, .bool pw]] := by
      refine hR (i + 1, out ++ [⟨2, way ++ [at_], a.getD i default, default⟩]) ⟨by dsimp only; omega, by dsimp only; rw [List.length_append, List.length_cons, List.length_nil]; omega, ?_⟩ (by dsimp only; omega)
      dsimp only
      rw [List.append_assoc]; exact hK
    have r1 : (out.length + 1) * 224 ≤ maxSl := room_le (by omega)
    have r2 : (way.length + 1) * 8 ≤ maxSl := way_le (by omega)
    repeat' (first | exact go | refine Rq.mk ?_ ?_ | exact r1 | exact r2 | exact ⟨by omega, by omega⟩)
  · have h1 : ¬ (i : Int) < pa := of_decide_eq_false h1
    have e : pa = (i : Int) := by omega
    subst e
    rw [delsI_end, List.append_nil] at hK
    exact hK
theorem s3_sum (k : Nat) : SumOK (cxS21 k) (LL Try.f29 (lssS21 k)) Try.f29.ntmps (loopAt Try.f29 2).1 (loopAt Try.f29 2).2 lsS3 := by
  intro vs bs K hs
  unfold lsS3 at hs
  simp only at hs
  split at hs
  case h_2 => exact hs.elim
  rename_i a b way i j at_ ps t out pa pb pw
  obtain ⟨⟨hj0, rfl, hjp, hpb, ho, hw, hwt⟩, h⟩ := hs
  rcases (show ∃ w : List Nd, w = a from ⟨_, rfl⟩) with ⟨a, rfl⟩
  rcases (show ∃ w : List Nd, w = b from ⟨_, rfl⟩) with ⟨b, rfl⟩
  rcases (show ∃ w : List Int, w = way from ⟨_, rfl⟩) with ⟨way, rfl⟩
  rcases (show ∃ w : List Pr, w = ps from ⟨_, rfl⟩) with ⟨ps, rfl⟩
  rcases (show ∃ w : List Ed, w = out from ⟨_, rfl⟩) with ⟨out, rfl⟩
  obtain ⟨j, rfl⟩ := Int.eq_ofNat_of_zero_le hj0
  refine sum_rec (σ := Nat × List Ed) (fun s => [.row .node a, .row .node b, .row .int way, .own 0 0, .int .i64 i, .int .i64 (s.1 : Nat), .int .i64 (s.1 : Nat), .row .rpair ps, .int .i64 t, .ptr 1 0]) (fun s => [.rowb 0 .redit s.2, .box [.int .i64 pa, .int .i64 pb, .bool pw]])
    (fun s => (s.1 : Int) ≤ pb ∧ s.2.length + (pb.toNat - s.1) ≤ roomMx ∧ K (.exit 4) [.row .node a, .row .node b, .row .int way, .own 0 0, .int .i64 i, .int .i64 pb, .int .i64 pb, .row .rpair ps, .int .i64 t, .ptr 1 0] [.rowb 0 .redit (s.2 ++ inssI b way pb s.1), .box [.int .i64 pa, .int .i64 pb, .bool pw]])
    (fun s => b.length - s.1) ?_ (j, out) ⟨hjp, ho, h⟩
  rintro ⟨j, out⟩ ⟨hi, ho, hK⟩ R hR
  dsimp only at hi ho hK hR ⊢
  refine Eq.mpr (vcS3 k a b way i j j t pa pb pw ps out _) ⟨fun h1 => ?_, fun h1 => ?_⟩
  · have h1 : (j : Int) < pb := of_decide_eq_true h1
    have hjb : j < b.length := by omega
    rw [inssI_step b way h1] at hK
    rw [wrap_succ hjb (len_sl hwt), rd_ndD hjb, nd_eta]
    have go : rk K R .norm [.row .node a, .row .node b, .row .int way, .own 0 0, .int .i64 i, .int .i64 ((j + 1 : Nat) : Int), .int .i64 ((j + 1 : Nat) : Int), .row .rpair ps, .int .i64 t, .ptr 1 0] [.rowb 0 .redit (out ++ [⟨1, way ++ [(j : Int)], default, b.getD j default⟩]), .box [.int .i64 pa, .int .i64 pb, .bool pw]] := by
      refine hR (j + 1, out ++ [⟨1, way ++ [(j : Int)], default, b.getD j default⟩]) ⟨by dsimp only; omega, by dsimp only; rw [List.length_append, List.length_cons, List.length_nil]; omega, ?_⟩ (by dsimp only; omega)
      dsimp only
      rw [List.append_assoc]; exact hK
    have r1 : (out.length + 1) * 224 ≤ maxSl := room_le (by omega)
    have r2 : (way.length + 1) * 8 ≤ maxSl := way_le (by omega)
    repeat' (first | exact go | refine Rq.mk ?_ ?_ | exact r1 | exact r2 | exact ⟨by omega, by omega⟩)
  · have h1 : ¬ (j : Int) < pb := of_decide_eq_false h1
    have e : pb = (j : Int) := by omega
    subst e
    rw [inssI_end, List.append_nil] at hK
    exact hK
end Go.Proofs.Ytmkjjopflncedaa.AX
end
section
namespace Go.Proofs.Ytmkjjopflncedaa.AX
open Go AXP
set_option maxRecDepth 100000
theorem okR_kids {k : Nat} {a b : List Nd} {way : List Int} (h : okR (k + 1) a b way) {x y : Nat} (hx : x < a.length) (hy : y < b.length) (v : Int) : okR k (a.getD x default).kids (b.getD y default).kids (way ++ [v]) := by
  obtain ⟨h1, h2, h3⟩ := h
  have e1 := dp_kids hx
  have w1 := wt_mem (getD_mem hx)
  have w2 := wt_mem (getD_mem hy)
  rw [wtNd_eq] at w1 w2
  refine ⟨by omega, by omega, ?_⟩
  rw [List.length_append, List.length_cons, List.length_nil]; omega
theorem ends_at {a b : List Nd} {t : Nat} (h : t < (pairsS a b).length) : (endsP a b).drop t = (pairsS a b)[t] :: (endsP a b).drop (t + 1) := by
  have hl : t < (endsP a b).length := by unfold endsP; rw [List.length_append]; omega
  rw [List.drop_eq_getElem_cons hl]
  congr 1
  unfold endsP
  exact List.getElem_append_left h
theorem ends_last (a b : List Nd) : (endsP a b).drop (pairsS a b).length = [⟨a.length, b.length, true⟩] := by
  unfold endsP
  rw [List.drop_append_of_le_length (Nat.le_refl _), List.drop_length]; rfl
theorem ends_none (a b : List Nd) : (endsP a b).drop ((pairsS a b).length + 1) = [] := by
  refine List.drop_of_length_le ?_
  unfold endsP
  rw [List.length_append, List.length_cons, List.length_nil]; exact Nat.le_refl _
theorem s1_sum (k : Nat) : SumOK (cxS21 k) (LL Try.f29 (lssS21 k)) Try.f29.ntmps (loopAt Try.f29 0).1 (loopAt Try.f29 0).2 (lsS1 k) := by
  intro vs bs K hs
  unfold lsS1 at hs
  simp only at hs
  split at hs
  case h_2 => exact hs.elim
  rename_i a b way i j at_ ps t out
  obtain ⟨⟨rfl, rfl, rfl, rfl, h0, hok, rfl⟩, h⟩ := hs
  obtain rfl : out = [] := List.eq_nil_of_length_eq_zero h0
  rcases (show ∃ w : List Nd, w = a from ⟨_, rfl⟩) with ⟨a, rfl⟩
  rcases (show ∃ w : List Nd, w = b from ⟨_, rfl⟩) with ⟨b, rfl⟩
  rcases (show ∃ w : List Int, w = way from ⟨_, rfl⟩) with ⟨way, rfl⟩
  have hok' := hok
  obtain ⟨_, hw2, hw3⟩ := hok'
  have hwa : wtNds a ≤ wtMx := by unfold wtMx; omega
  have hwb : wtNds b ≤ wtMx := by unfold wtMx; omega
  have hw : way.length + 1 ≤ roomMx := by unfold roomMx; omega
  have hla := len_sl hwa
  have hlb := len_sl hwb
  have pl := riseL_len (pairs_rise a b) (Nat.zero_le _)
  have hpl : (pairsS a b).length ≤ maxSl := by omega
  have hri : RiseX a.length b.length ((0 : Nat) : Int) ((0 : Nat) : Int) ((endsP a b).drop 0) := by rw [List.drop_zero]; exact rise_ends (pairs_rise a b) (Nat.zero_le _) (Nat.zero_le _)
  have hrm : ([] : List Ed).length + 3 * (wtNds (a.drop 0) + wtNds (b.drop 0)) ≤ roomMx := by rw [List.drop_zero, List.drop_zero, List.length_nil]; unfold roomMx; omega
  have e0 : scriptF (k + 1) a b way = genI (scriptF k) a b way ((endsP a b).drop 0) ((0 : Nat) : Int) ((0 : Nat) : Int) := by
    have e := genI_ends (r := scriptF k) (way := way) (i := 0) (j := 0) (pairs_rise a b)
    rw [List.drop_zero, scriptF, ← e]; rfl
  rw [e0] at h
  refine sum_rec (σ := Nat × Nat × Nat × List Ed) (fun s => [.row .node a, .row .node b, .row .int way, .own 0 0, .int .i64 (s.2.1 : Nat), .int .i64 (s.2.2.1 : Nat), .int .i64 (s.2.2.1 : Nat), .row .rpair (pairsS a b), .int .i64 (s.1 : Nat)]) (fun s => [.rowb 0 .redit s.2.2.2])
    (fun s => s.1 ≤ (pairsS a b).length + 1 ∧ RiseX a.length b.length s.2.1 s.2.2.1 ((endsP a b).drop s.1) ∧ s.2.2.2.length + 3 * (wtNds (a.drop s.2.1) + wtNds (b.drop s.2.2.1)) ≤ roomMx ∧ K (.exit 0) [.own 0 0] [.rowb 0 .redit (s.2.2.2 ++ genI (scriptF k) a b way ((endsP a b).drop s.1) s.2.1 s.2.2.1)])
    (fun s => (pairsS a b).length + 1 - s.1) ?_ (0, 0, 0, []) ⟨Nat.zero_le _, hri, hrm, by rw [List.nil_append]; exact h⟩
  rintro ⟨t, i, j, out⟩ ⟨ht, hr, ho, hK⟩ R hR
  dsimp only at ht hr ho hK hR ⊢
  refine Eq.mpr (vcS1 k a b way i j j t (pairsS a b) out _) ⟨fun _ => ⟨fun h1 => ⟨fun _ => ⟨fun _ => ⟨fun _ => ⟨fun h2 => ?_, fun h2 => ?_⟩⟩⟩⟩, fun h1 => ?_⟩⟩
  · have h2 : (t : Int) < ((pairsS a b).length : Int) := of_decide_eq_true h2
    have hip : t < (pairsS a b).length := by omega
    rw [ends_at hip] at hr hK
    rw [rd_rpair hip, wrap_succ hip hpl]
    generalize (pairsS a b)[t] = p at hr hK ⊢
    obtain ⟨pa, pb, pw⟩ := p
    obtain ⟨r1, r2, r3, r4, r5, r6⟩ := hr
    rw [genI] at hK
    dsimp only at r1 r2 r3 r4 r5 r6 hK ⊢
    obtain ⟨x, rfl⟩ := Int.eq_ofNat_of_zero_le (show 0 ≤ pa by omega)
    obtain ⟨y, rfl⟩ := Int.eq_ofNat_of_zero_le (show 0 ≤ pb by omega)
    have hx : x ≤ a.length := by omega
    have hy : y ≤ b.length := by omega
    have a1 := wt_drop_ge a (show i ≤ x by omega) hx
    have b1 := wt_drop_ge b (show j ≤ y by omega) hy
    have hdl : (delsI a way j x i).length = x - i := by unfold delsI; rw [delsE_len]; simp
    have hil : (inssI b way y j).length = y - j := by unfold inssI; rw [inssE_len]; simp
    rw [wrap_le hx hla, wrap_le hy hlb]
    generalize delsI a way j x i = D at hdl hK ⊢
    generalize inssI b way y j = N at hil hK ⊢
    refine Rq.mk ⟨by omega, h2⟩ ?_
    refine Rq.mk ⟨by omega, r1, r3, by omega, by simp only [Int.toNat_natCast]; omega, hw, hwa⟩ ?_
    refine Rq.mk ⟨by omega, rfl, r2, r4, by simp only [Int.toNat_natCast, List.length_append]; omega, hw, hwb⟩ ?_
    refine ⟨fun h3 => ?_, fun h3 => ?_⟩
    · have h3 : pw = false := by cases pw <;> simp_all
      subst h3
      obtain ⟨s1, s2⟩ := r5 rfl
      have hxa : x < a.length := by omega
      have hyb : y < b.length := by omega
      rw [if_neg (by decide)] at hK
      rw [rd_ndD hxa, rd_ndD hyb] at hK ⊢
      have kk := okR_kids hok hxa hyb ((y : Nat) : Int)
      have al := alikeE_len (r := scriptF k) (x := a.getD x default) (y := b.getD y default) (w := way ++ [((y : Nat) : Int)]) (scriptF_len k _ _ _)
      have sl := scriptF_len k (a.getD x default).kids (b.getD y default).kids (way ++ [((y : Nat) : Int)])
      rw [wt_drop_get a hxa] at a1
      rw [wt_drop_get b hyb] at b1
      have n1 := wtNd_eq (a.getD x default)
      have n2 := wtNd_eq (b.getD y default)
      have w8 : (way.length + 1) * 8 ≤ maxSl := way_le (by omega)
      have fin : ∀ L : List Ed, L = out ++ D ++ N ++ alikeE (scriptF k) (a.getD x default) (b.getD y default) (way ++ [((y : Nat) : Int)]) → rk K R .norm [.row .node a, .row .node b, .row .int way, .own 0 0, .int .i64 ((x + 1 : Nat) : Int), .int .i64 ((y + 1 : Nat) : Int), .int .i64 ((y + 1 : Nat) : Int), .row .rpair (pairsS a b), .int .i64 ((t + 1 : Nat) : Int)] [.rowb 0 .redit L] := fun L hL => by
        refine hR (t + 1, x + 1, y + 1, L) ⟨by dsimp only; omega, r6, ?_, ?_⟩ (by dsimp only; omega)
        · dsimp only; rw [hL, List.length_append, List.length_append, List.length_append]; omega
        · dsimp only; rw [hL]; simp only [List.append_assoc] at hK ⊢; exact hK
      generalize a.getD x default = X at *
      generalize b.getD y default = Y at *
      refine Rq.mk ⟨by omega, s1⟩ (Rq.mk ⟨by omega, s2⟩ ⟨fun h4 => ?_, fun h4 => ?_⟩)
      · have h4 : eql eqAt X.attrs Y.attrs = false := by cases hq : eql eqAt X.attrs Y.attrs <;> simp_all
        refine Rq.mk w8 (Rq.mk (room_le (by simp only [List.length_append, List.length_cons, List.length_nil]; omega)) ⟨fun h5 => ?_, fun h5 => ?_⟩)
        · have h5 : eqS X.text Y.text = false := by cases hq : eqS X.text Y.text <;> simp_all
          refine Rq.mk w8 (Rq.mk (room_le (by simp only [List.length_append, List.length_cons, List.length_nil]; omega)) (Rq.mk w8 (Rq.mk kk (Rq.mk (room_le (by simp only [List.length_append, List.length_cons, List.length_nil]; omega)) (fin _ ?_)))))
          unfold alikeE attE txtE
          rw [h4, h5, if_neg (by decide), if_neg (by decide)]
          simp only [List.append_assoc]
          rfl
        · have h5 : eqS X.text Y.text = true := by cases hq : eqS X.text Y.text <;> simp_all
          refine Rq.mk w8 (Rq.mk kk (Rq.mk (room_le (by simp only [List.length_append, List.length_cons, List.length_nil]; omega)) (fin _ ?_)))
          unfold alikeE attE txtE
          rw [h4, h5, if_neg (by decide), if_pos rfl, List.append_nil]
          simp only [List.append_assoc]
          rfl
      · have h4 : eql eqAt X.attrs Y.attrs = true := by cases hq : eql eqAt X.attrs Y.attrs <;> simp_all
        refine ⟨fun h5 => ?_, fun h5 => ?_⟩
        · have h5 : eqS X.text Y.text = false := by cases hq : eqS X.text Y.text <;> simp_all
          refine Rq.mk w8 (Rq.mk (room_le (by simp only [List.length_append, List.length_cons, List.length_nil]; omega)) (Rq.mk w8 (Rq.mk kk (Rq.mk (room_le (by simp only [List.length_append, List.length_cons, List.length_nil]; omega)) (fin _ ?_)))))
          unfold alikeE attE txtE
          rw [h4, h5, if_pos rfl, if_neg (by decide), List.nil_append]
          simp only [List.append_assoc]
          rfl
        · have h5 : eqS X.text Y.text = true := by cases hq : eqS X.text Y.text <;> simp_all
          refine Rq.mk w8 (Rq.mk kk (Rq.mk (room_le (by simp only [List.length_append, List.length_cons, List.length_nil]; omega)) (fin _ ?_)))
          unfold alikeE attE txtE
          rw [h4, h5, if_pos rfl, if_pos rfl, List.nil_append, List.nil_append]
    · have h3 : pw = true := by cases pw <;> simp_all
      subst h3
      rw [if_pos rfl, List.append_nil] at hK
      have a2 := wt_drop_le a x
      have b2 := wt_drop_le b y
      refine hR (t + 1, x + 1, y + 1, out ++ D ++ N) ⟨by dsimp only; omega, r6, ?_, ?_⟩ (by dsimp only; omega)
      · dsimp only; rw [List.length_append, List.length_append]; omega
      · dsimp only; simp only [List.append_assoc] at hK ⊢; exact hK
  · have h1 : (t : Int) ≤ ((pairsS a b).length : Int) := of_decide_eq_true h1
    have h2 : ¬ (t : Int) < ((pairsS a b).length : Int) := of_decide_eq_false h2
    obtain rfl : t = (pairsS a b).length := by omega
    rw [ends_last] at hr hK
    obtain ⟨r1, r2, r3, r4, r5, r6⟩ := hr
    rw [genI, genI, List.append_nil] at hK
    dsimp only at r1 r2 r3 r4 r5 r6 hK ⊢
    rw [if_pos rfl, List.append_nil] at hK
    have a1 := wt_drop_ge a (show i ≤ a.length by omega) (Nat.le_refl _)
    have b1 := wt_drop_ge b (show j ≤ b.length by omega) (Nat.le_refl _)
    have hdl : (delsI a way j a.length i).length = a.length - i := by unfold delsI; rw [delsE_len]; simp
    have hil : (inssI b way b.length j).length = b.length - j := by unfold inssI; rw [inssE_len]; simp
    rw [wrap_le (Nat.le_refl a.length) hla, wrap_le (Nat.le_refl b.length) hlb, wrap_le (Nat.le_refl (pairsS a b).length) hpl]
    generalize delsI a way j a.length i = D at hdl hK ⊢
    generalize inssI b way b.length j = N at hil hK ⊢
    refine Rq.mk ⟨by omega, r1, r3, by omega, by simp only [Int.toNat_natCast]; omega, hw, hwa⟩ ?_
    refine Rq.mk ⟨by omega, rfl, r2, r4, by simp only [Int.toNat_natCast, List.length_append]; omega, hw, hwb⟩ ?_
    refine ⟨fun h3 => (nomatch h3), fun _ => ?_⟩
    refine hR ((pairsS a b).length + 1, a.length + 1, b.length + 1, out ++ D ++ N) ⟨Nat.le_refl _, ?_, ?_, ?_⟩ (by dsimp only; omega)
    · rw [ends_none]; trivial
    · dsimp only
      rw [List.drop_of_length_le (Nat.le_succ _), List.drop_of_length_le (Nat.le_succ _), List.length_append, List.length_append]; simp only [wtNds]; omega
    · dsimp only
      rw [ends_none, genI, List.append_nil]; simp only [List.append_assoc] at hK ⊢; exact hK
  · have h1 : ¬ (t : Int) ≤ ((pairsS a b).length : Int) := of_decide_eq_false h1
    obtain rfl : t = (pairsS a b).length + 1 := by omega
    rw [ends_none, genI, List.append_nil] at hK
    exact hK
theorem s21_lt : ∀ k, Holds 29 (conS21Lt k)
  | 0 => conP_holds fun a b way => by
    intro F I w vals hH hv hpre
    exact absurd (hpre _ rfl).1 (Nat.not_lt_zero _)
  | k + 1 => conP_holds fun a b way => by
    rcases (show ∃ w : List Nd, w = a from ⟨_, rfl⟩) with ⟨a, rfl⟩
    rcases (show ∃ w : List Nd, w = b from ⟨_, rfl⟩) with ⟨b, rfl⟩
    refine fun_meetsL (AllH.tok (.cons L20_holds (by kernel_rfl) (.cons step21_holds (by kernel_rfl) (.cons ats_holds (by kernel_rfl) (.cons (s21_lt k) (by kernel_rfl) .nil))))) [.own .redit] (lssS21 k) (by kernel_rfl) (by kernel_rfl) (fun i z hz => by
      match i, hz with
      | 0, hz => simp [lssS21] at hz; subst hz; exact s1_sum k
      | 1, hz => simp [lssS21] at hz; subst hz; exact s2_sum k
      | 2, hz => simp [lssS21] at hz; subst hz; exact s3_sum k
      | i + 3, hz => simp [lssS21] at hz) fun hpre => Eq.mpr (vcS21F k a b way _) ?_
    have hok : okR (k + 1) a b way := hpre _ rfl
    have l1 := wt_len a
    have l2 := wt_len b
    have := hok.2.1
    exact Rq.mk (by omega) (Rq.mk ⟨rfl, rfl, rfl, rfl, rfl, hok, rfl⟩ (qfin rfl rfl rfl rfl))
theorem s21_holds : Holds 29 conS21 := conP_holds fun a b way => s21_lt (dpNds a + 1) _ _ _ rfl
end Go.Proofs.Ytmkjjopflncedaa.AX
end
section
namespace Go.Proofs.Ytmkjjopflncedaa.AXP
open Go Go.Proofs.Ytmkjjopflncedaa.AX
mutual
def cntNd : Nd → Nat
  | ⟨_, _, _, _, _, c⟩ => 1 + cntNds c
def cntNds : List Nd → Nat
  | [] => 0
  | n :: l => cntNd n + cntNds l
end
/-- How many nodes an edit puts in or takes out, or 1. -/
def sizeE (x : Ed) : Nat := if (x.what == 1) = true then cntNd x.new else if (x.what == 2) = true then cntNd x.old else 1
def sizeS : List Ed → Nat
  | [] => 0
  | x :: s => sizeE x + sizeS s
end Go.Proofs.Ytmkjjopflncedaa.AXP
namespace Go.Proofs.Ytmkjjopflncedaa.AX
open Go AXP
def conCnt1 : Con := fun args hp => match args, hp with
  | [.agg c, .int .i64 d, .ptr 0 0], [.box [.int .i64 n]] => (toNd c).bind fun _ => some { pre := some (0 ≤ n ∧ n < maxSl), res := .tup [], hp := [.box [.int .i64 (n + 1)]] }
  | _, _ => none
noncomputable def conEachLt (k : Nat) : Con := fun args hp => match args, hp with
  | [x, .int .i64 d, .fn f [.ptr 0 0]], [.box [.int .i64 n]] => match Nat.beq f 81 with
    | true => (rowOf .node x).bind fun (l : List Nd) => some { pre := some (cntNds l < k ∧ 0 ≤ n ∧ n + cntNds l ≤ maxSl), res := .tup [], hp := [.box [.int .i64 (n + cntNds l)]] }
    | false => none
  | _, _ => none
noncomputable def cxEach (k : Nat) : Cx := cxT (tabLook [(81, conCnt1), (80, conEachLt k)])
def lsEach (k : Nat) : LS where
  keep := [(1, .as), (2, .as), (8, .as), (9, .as), (10, .as)]
  left := [(2, .as)]
  sum := fun vs bs K => match vs, bs with
    | [.int .i64 d, .fn f [.ptr 0 0], .row .node l, .int .i64 m, .int .i64 i], [.box [.int .i64 n]] => Rq (f = 81 ∧ m = l.length ∧ i = 0 ∧ cntNds l < k + 1 ∧ 0 ≤ n ∧ n + cntNds l ≤ maxSl) (K (.exit 0) [.fn f [.ptr 0 0]] [.box [.int .i64 (n + cntNds l)]])
    | _, _ => False
noncomputable def conEach : Con := fun args hp => match args, hp with
  | [x, .int .i64 d, .fn f [.ptr 0 0]], [.box [.int .i64 n]] => match Nat.beq f 81 with
    | true => (rowOf .node x).bind fun (l : List Nd) => some { pre := some (0 ≤ n ∧ n + cntNds l ≤ maxSl), res := .tup [], hp := [.box [.int .i64 (n + cntNds l)]] }
    | false => none
  | _, _ => none
noncomputable def cxCount : Cx := cxT (tabLook [(80, conEach)])
def conCount : Con := conP [.row .node] fun (l : List Nd) => { pre := some (cntNds l ≤ maxSl), res := .int .i64 (cntNds l) }
noncomputable def cxSize : Cx := cxT (tabLook [(58, conCount)])
def lsSize : LS where
  keep := [(3, .as), (6, .as), (7, .as), (8, .as)]
  left := [(3, .as)]
  sum := fun vs bs K => match vs, bs with
    | [.int .i64 n, .row .edit s, .int .i64 m, .int .i64 i], [] => Rq (m = s.length ∧ i = 0 ∧ n = 0 ∧ sizeS s ≤ maxSl ∧ s.length ≤ maxSl) (K (.exit 0) [.int .i64 (sizeS s)] [])
    | _, _ => False
def conSize : Con := conP [.row .edit] fun (s : List Ed) => { pre := some (sizeS s ≤ maxSl), res := .int .i64 (sizeS s) }
end Go.Proofs.Ytmkjjopflncedaa.AX
end
section
namespace Go.Proofs.Ytmkjjopflncedaa.AX
open Go AXP
set_option maxRecDepth 100000
theorem vcCnt1F (x : Nd) (d n : Int) (Q : List AV → List Blk → List Blk → Prop) : (funA cx0 (LL Try.f81 []) Try.f81 [.agg (nodeL x), .int .i64 d, .ptr 0 0] [.box [.int .i64 n]] [] Q) = (
Q [] [Blk.box [AV.int IntKind.i64 (IntKind.i64.wrap (n + (1 : Int)))]] []) := by kernel_rfl
theorem vcEachB (k : Nat) (l : List Nd) (d n m i : Int) (K : Ex → List AV → List Blk → Prop) : (bodyA (cxEach k) (LL Try.f80 [lsEach k]) Try.f80.ntmps (loopAt Try.f80 0).1 (loopAt Try.f80 0).2 (lsEach k).keep (lsEach k).left K [.int .i64 d, .fn 81 [.ptr 0 0], .row .node l, .int .i64 m, .int .i64 i] [.box [.int .i64 n]]) = (
Br (decide (i < m))
  (Rq ((0 : Int) ≤ i ∧ i < (↑l.length : Int))
    (Rq ((0 : Int) ≤ n ∧ n < (↑maxSl : Int))
      (Rq
        (cntNds (rd Ty.node l i).6 < k ∧
          (0 : Int) ≤ n + (1 : Int) ∧ n + (1 : Int) + (↑(cntNds (rd Ty.node l i).6) : Int) ≤ (↑maxSl : Int))
        (K Ex.norm
          [AV.int IntKind.i64 d, AV.fn (81 : Nat) [AV.ptr (0 : Nat) (0 : Nat)], AV.row Ty.node l, AV.int IntKind.i64 m,
            AV.int IntKind.i64 (IntKind.i64.wrap (i + (1 : Int)))]
          [Blk.box [AV.int IntKind.i64 (n + (1 : Int) + (↑(cntNds (rd Ty.node l i).6) : Int))]]))))
  (K (Ex.exit (0 : Nat)) [AV.fn (81 : Nat) [AV.ptr (0 : Nat) (0 : Nat)]] [Blk.box [AV.int IntKind.i64 n]])) := by kernel_rfl
theorem vcEachF (k : Nat) (l : List Nd) (d n : Int) (Q : List AV → List Blk → List Blk → Prop) : (funS (cxEach k) (LL Try.f80 [lsEach k]) Try.f80 [.row .node l, .int .i64 d, .fn 81 [.ptr 0 0]] [.box [.int .i64 n]] [.cap 2 0] [] [] Q) = (
Gv (l.length ≤ maxSl)
  (Rq
    ((81 : Nat) = (81 : Nat) ∧
      (↑l.length : Int) = (↑l.length : Int) ∧
        (0 : Int) = (0 : Int) ∧ cntNds l < k + (1 : Nat) ∧ (0 : Int) ≤ n ∧ n + (↑(cntNds l) : Int) ≤ (↑maxSl : Int))
    (Q [] [Blk.box [AV.int IntKind.i64 (n + (↑(cntNds l) : Int))]] []))) := by kernel_rfl
theorem vcCountF (l : List Nd) (Q : List AV → List Blk → List Blk → Prop) : (funA cxCount (LL Try.f58 []) Try.f58 [.row .node l] [] [] Q) = (
Rq ((0 : Int) ≤ (0 : Int) ∧ (0 : Int) + (↑(cntNds l) : Int) ≤ (↑maxSl : Int))
  (Q [AV.int IntKind.i64 ((0 : Int) + (↑(cntNds l) : Int))] [] [])) := by kernel_rfl
theorem vcSizeB (s : List Ed) (n m i : Int) (K : Ex → List AV → List Blk → Prop) : (bodyA cxSize (LL Try.f32 [lsSize]) Try.f32.ntmps (loopAt Try.f32 0).1 (loopAt Try.f32 0).2 lsSize.keep lsSize.left K [.int .i64 n, .row .edit s, .int .i64 m, .int .i64 i] []) = (
Br (decide (i < m))
  (Rq ((0 : Int) ≤ i ∧ i < (↑s.length : Int))
    (Br ((rd Ty.edit s i).1 == (1 : Int))
      (Rq
        (cntNds
            [Nd.mk (rd Ty.edit s i).4.1 (rd Ty.edit s i).4.2 (rd Ty.edit s i).4.3 (rd Ty.edit s i).4.4
                (rd Ty.edit s i).4.5 (rd Ty.edit s i).4.6] ≤
          maxSl)
        (K Ex.norm
          [AV.int IntKind.i64
              (IntKind.i64.wrap
                (n +
                  (↑(cntNds
                        [Nd.mk (rd Ty.edit s i).4.1 (rd Ty.edit s i).4.2 (rd Ty.edit s i).4.3 (rd Ty.edit s i).4.4
                            (rd Ty.edit s i).4.5 (rd Ty.edit s i).4.6]) :
                    Int))),
            AV.row Ty.edit s, AV.int IntKind.i64 m, AV.int IntKind.i64 (IntKind.i64.wrap (i + (1 : Int)))]
          []))
      (Br ((rd Ty.edit s i).1 == (2 : Int))
        (Rq
          (cntNds
              [Nd.mk (rd Ty.edit s i).3.1 (rd Ty.edit s i).3.2 (rd Ty.edit s i).3.3 (rd Ty.edit s i).3.4
                  (rd Ty.edit s i).3.5 (rd Ty.edit s i).3.6] ≤
            maxSl)
          (K Ex.norm
            [AV.int IntKind.i64
                (IntKind.i64.wrap
                  (n +
                    (↑(cntNds
                          [Nd.mk (rd Ty.edit s i).3.1 (rd Ty.edit s i).3.2 (rd Ty.edit s i).3.3 (rd Ty.edit s i).3.4
                              (rd Ty.edit s i).3.5 (rd Ty.edit s i).3.6]) :
                      Int))),
              AV.row Ty.edit s, AV.int IntKind.i64 m, AV.int IntKind.i64 (IntKind.i64.wrap (i + (1 : Int)))]
            []))
        (K Ex.norm
          [AV.int IntKind.i64 (IntKind.i64.wrap (n + (1 : Int))), AV.row Ty.edit s, AV.int IntKind.i64 m,
            AV.int IntKind.i64 (IntKind.i64.wrap (i + (1 : Int)))]
          []))))
  (K (Ex.exit (0 : Nat)) [AV.int IntKind.i64 n] [])) := by kernel_rfl
theorem vcSizeF (s : List Ed) (Q : List AV → List Blk → List Blk → Prop) : (funA cxSize (LL Try.f32 [lsSize]) Try.f32 [.row .edit s] [] [] Q) = (
Gv (s.length ≤ maxSl)
  (Rq
    ((↑s.length : Int) = (↑s.length : Int) ∧
      (0 : Int) = (0 : Int) ∧ (0 : Int) = (0 : Int) ∧ sizeS s ≤ maxSl ∧ s.length ≤ maxSl)
    (Q [AV.int IntKind.i64 (↑(sizeS s) : Int)] [] []))) := by kernel_rfl
end Go.Proofs.Ytmkjjopflncedaa.AX
end
section
namespace Go.Proofs.Ytmkjjopflncedaa.AX
open Go AXP
set_option maxRecDepth 100000
theorem cntNd_eq (n : Nd) : cntNd n = 1 + cntNds n.kids := by cases n; rw [cntNd]
theorem cnt_app : ∀ (a b : List Nd), cntNds (a ++ b) = cntNds a + cntNds b
  | [], b => by simp [cntNds]
  | x :: a, b => by rw [List.cons_append, cntNds, cntNds, cnt_app a b]; omega
theorem cnt_one (n : Nd) : cntNds [n] = cntNd n := by simp [cntNds]
theorem cnt_take {l : List Nd} {i : Nat} (h : i < l.length) : cntNds (l.take (i + 1)) = cntNds (l.take i) + cntNd l[i] := by
  rw [← List.take_append_getElem h, cnt_app, cnt_one]
theorem cnt_take_le (l : List Nd) (i : Nat) : cntNds (l.take i) ≤ cntNds l := by
  have := cnt_app (l.take i) (l.drop i)
  rw [List.take_append_drop] at this; omega
theorem cnt_mem {l : List Nd} {i : Nat} (h : i < l.length) : cntNd l[i] ≤ cntNds l := by
  have := cnt_take h
  have := cnt_take_le l (i + 1)
  omega
theorem cnt_len : ∀ l : List Nd, l.length ≤ cntNds l
  | [] => Nat.zero_le _
  | n :: l => by have := cnt_len l; rw [cntNds, cntNd_eq, List.length_cons]; omega
theorem cnt1_holds : Holds 81 conCnt1 := by
  intro args hp ans hc
  unfold conCnt1 at hc
  split at hc
  case h_2 => cases hc
  rename_i c d n
  simp only [Option.bind_eq_some_iff] at hc
  obtain ⟨x, hx, hc⟩ := hc
  injection hc with hc
  subst hc
  refine Meets.weaken (args' := [.agg (nodeL x), .int .i64 d, .ptr 0 0]) (.cons (toNd_le hx) (.cons (.refl _) (.cons (.refl _) .nil))) ?_
  refine fun_meets0 tok0 [] (by kernel_rfl) (by kernel_rfl) fun hpre => Eq.mpr (vcCnt1F x d n _) ?_
  obtain ⟨h1, h2⟩ := hpre _ rfl
  refine qfin rfl rfl ?_ rfl
  have : IntKind.i64.wrap (n + 1) = n + 1 := by unfold maxSl at h2; rw [wrap_id'] <;> omega
  rw [this]
theorem each_sum (k : Nat) : SumOK (cxEach k) (LL Try.f80 [lsEach k]) Try.f80.ntmps (loopAt Try.f80 0).1 (loopAt Try.f80 0).2 (lsEach k) := by
  intro vs bs K hs
  unfold lsEach at hs
  simp only at hs
  split at hs
  case h_2 => exact hs.elim
  rename_i d f l m i n
  obtain ⟨⟨rfl, rfl, rfl, hk, h0, hn⟩, h⟩ := hs
  rcases (show ∃ w : List Nd, w = l from ⟨_, rfl⟩) with ⟨l, rfl⟩
  have hlen := cnt_len l
  have hl : l.length ≤ maxSl := by omega
  refine sum_rec (σ := Nat × Int) (fun s => [.int .i64 d, .fn 81 [.ptr 0 0], .row .node l, .int .i64 l.length, .int .i64 (s.1 : Nat)]) (fun s => [.box [.int .i64 s.2]]) (fun s => s.1 ≤ l.length ∧ s.2 = n + cntNds (l.take s.1)) (fun s => l.length - s.1) ?_ (0, n) ⟨Nat.zero_le _, by simp [cntNds]⟩
  rintro ⟨i, v⟩ ⟨hi, hv⟩ R hR
  dsimp only at hi hv hR ⊢
  subst hv
  refine Eq.mpr (vcEachB k l d _ l.length i _) ⟨fun h1 => ?_, fun h1 => ?_⟩
  · have h1 : (i : Int) < (l.length : Int) := of_decide_eq_true h1
    have hi : i < l.length := by omega
    have e1 := cnt_take hi
    have e2 := cnt_take_le l (i + 1)
    have e3 := cnt_mem hi
    rw [cntNd_eq] at e1 e3
    rw [rd_nd hi, wrap_succ hi hl]
    refine ⟨⟨by omega, h1⟩, ⟨⟨by omega, by omega⟩, ⟨⟨by omega, by omega, by omega⟩, ?_⟩⟩⟩
    exact hR (i + 1, n + (cntNds (l.take i) : Int) + 1 + (cntNds l[i].kids : Int)) ⟨hi, by dsimp only; rw [e1]; omega⟩ (by dsimp only; omega)
  · have h1 : ¬ (i : Int) < (l.length : Int) := of_decide_eq_false h1
    rw [List.take_of_length_le (by omega)]
    exact h
theorem each_lt : ∀ k, Holds 80 (conEachLt k)
  | 0 => by
    intro args hp ans hc
    unfold conEachLt at hc
    split at hc
    case h_2 => cases hc
    split at hc
    case h_2 => cases hc
    simp only [Option.bind_eq_some_iff] at hc
    obtain ⟨a, hx, hc⟩ := hc
    injection hc with hc
    subst hc
    intro F I w vals hH hv hpre
    exact absurd (hpre _ rfl).1 (Nat.not_lt_zero _)
  | k + 1 => by
    intro args hp ans hc
    unfold conEachLt at hc
    split at hc
    case h_2 => cases hc
    rename_i x d f n
    split at hc
    case h_2 => cases hc
    rename_i hf
    have hf := Nat.eq_of_beq_eq_true hf
    subst hf
    simp only [Option.bind_eq_some_iff] at hc
    obtain ⟨l, hx, hc⟩ := hc
    injection hc with hc
    subst hc
    refine Meets.weaken (args' := [.row .node l, .int .i64 d, .fn 81 [.ptr 0 0]]) (.cons (rowOf_le hx) (.cons (.refl _) (.cons (.refl _) .nil))) ?_
    refine fun_meets1S (AllH.tok (.cons cnt1_holds (by kernel_rfl) (.cons (each_lt k) (by kernel_rfl) .nil))) [.cap 2 0] [] (lsEach k) (by kernel_rfl) (by kernel_rfl) (each_sum k) fun hpre => Eq.mpr (vcEachF k l d n _) ?_
    obtain ⟨h1, h2, h3⟩ := hpre _ rfl
    exact ⟨fun _ => ⟨⟨rfl, rfl, rfl, h1, h2, h3⟩, qfin rfl rfl rfl rfl⟩⟩
theorem each_holds : Holds 80 conEach := by
  intro args hp ans hc
  unfold conEach at hc
  split at hc
  case h_2 => cases hc
  rename_i x d f n
  split at hc
  case h_2 => cases hc
  rename_i hf
  have hf := Nat.eq_of_beq_eq_true hf
  subst hf
  simp only [Option.bind_eq_some_iff] at hc
  obtain ⟨l, hx, hc⟩ := hc
  injection hc with hc
  subst hc
  rcases (show ∃ w : List Nd, w = l from ⟨_, rfl⟩) with ⟨l, rfl⟩
  have := each_lt (cntNds l + 1) [x, .int .i64 d, .fn 81 [.ptr 0 0]] [.box [.int .i64 n]] { pre := some (cntNds l < cntNds l + 1 ∧ 0 ≤ n ∧ n + cntNds l ≤ maxSl), res := .tup [], hp := [.box [.int .i64 (n + cntNds l)]] } (by unfold conEachLt; simp only [hx, Option.bind_some])
  exact fun F I w vals hH hv hpre => this F I w vals hH hv (fun p hp => by injection hp with hp; subst hp; exact ⟨Nat.lt_succ_self _, hpre _ rfl⟩)
theorem count_holds : Holds 58 conCount := conP_holds fun l => by
  rcases (show ∃ w : List Nd, w = l from ⟨_, rfl⟩) with ⟨l, rfl⟩
  refine fun_meets0 (AllH.tok (.cons each_holds (by kernel_rfl) .nil)) [] (by kernel_rfl) (by kernel_rfl) fun hpre => Eq.mpr (vcCountF l _) ?_
  have h : cntNds l ≤ maxSl := hpre _ rfl
  refine ⟨⟨Int.le_refl _, by omega⟩, qfin rfl ?_ rfl rfl⟩
  rw [Int.zero_add]
  try rfl
theorem size_app : ∀ (a b : List Ed), sizeS (a ++ b) = sizeS a + sizeS b
  | [], b => by simp [sizeS]
  | x :: a, b => by rw [List.cons_append, sizeS, sizeS, size_app a b]; omega
theorem size_take {s : List Ed} {i : Nat} (h : i < s.length) : sizeS (s.take (i + 1)) = sizeS (s.take i) + sizeE s[i] := by
  rw [← List.take_append_getElem h, size_app]; simp [sizeS]
theorem size_take_le (s : List Ed) (i : Nat) : sizeS (s.take i) ≤ sizeS s := by
  have := size_app (s.take i) (s.drop i)
  rw [List.take_append_drop] at this; omega
theorem size_sum : SumOK cxSize (LL Try.f32 [lsSize]) Try.f32.ntmps (loopAt Try.f32 0).1 (loopAt Try.f32 0).2 lsSize := by
  intro vs bs K hs
  unfold lsSize at hs
  simp only at hs
  split at hs
  case h_2 => exact hs.elim
  rename_i n s m i
  obtain ⟨⟨rfl, rfl, rfl, hz, hl⟩, h⟩ := hs
  rcases (show ∃ w : List Ed, w = s from ⟨_, rfl⟩) with ⟨s, rfl⟩
  refine sum_rec (σ := Nat) (fun i => [.int .i64 (sizeS (s.take i) : Nat), .row .edit s, .int .i64 s.length, .int .i64 (i : Nat)]) (fun _ => []) (fun i => i ≤ s.length) (fun i => s.length - i) ?_ 0 (Nat.zero_le _)
  rintro i hi R hR
  refine Eq.mpr (vcSizeB s _ s.length i _) ⟨fun h1 => ?_, fun h1 => ?_⟩
  · have h1 : (i : Int) < (s.length : Int) := of_decide_eq_true h1
    have hi : i < s.length := by omega
    have e1 := size_take hi
    have e2 := size_take_le s (i + 1)
    rw [rd_ed hi, wrap_succ hi hl, nd_eta, nd_eta, cnt_one, cnt_one]
    have key : ∀ v : Nat, sizeE s[i] = v → IntKind.i64.wrap (((sizeS (s.take i) : Nat) : Int) + (v : Int)) = ((sizeS (s.take (i + 1)) : Nat) : Int) ∧ v ≤ maxSl := fun v hv => by
      rw [hv] at e1
      refine ⟨?_, by omega⟩
      rw [e1]
      unfold maxSl at hz
      rw [wrap_id'] <;> omega
    have go := hR (i + 1) hi (by omega)
    refine ⟨⟨by omega, h1⟩, ⟨fun h2 => ?_, fun h2 => ⟨fun h3 => ?_, fun h3 => ?_⟩⟩⟩
    · obtain ⟨k1, k2⟩ := key (cntNd s[i].new) (by unfold sizeE; rw [if_pos h2])
      refine Rq.mk k2 ?_
      rw [k1]; exact go
    · obtain ⟨k1, k2⟩ := key (cntNd s[i].old) (by unfold sizeE; rw [if_neg (by rw [h2]; decide), if_pos h3])
      refine Rq.mk k2 ?_
      rw [k1]; exact go
    · obtain ⟨k1, k2⟩ := key 1 (by unfold sizeE; rw [if_neg (by rw [h2]; decide), if_neg (by rw [h3]; decide)])
      have k1 : IntKind.i64.wrap (((sizeS (s.take i) : Nat) : Int) + 1) = ((sizeS (s.take (i + 1)) : Nat) : Int) := k1
      rw [k1]; exact go
  · have h1 : ¬ (i : Int) < (s.length : Int) := of_decide_eq_false h1
    rw [List.take_of_length_le (by omega)]
    exact h
theorem size_holds : Holds 32 conSize := conP_holds fun s => by
  rcases (show ∃ w : List Ed, w = s from ⟨_, rfl⟩) with ⟨s, rfl⟩
  refine fun_meets1 (AllH.tok (.cons count_holds (by kernel_rfl) .nil)) [] lsSize (by kernel_rfl) (by kernel_rfl) size_sum fun hpre => Eq.mpr (vcSizeF s _) ?_
  have h : sizeS s ≤ maxSl := hpre _ rfl
  exact ⟨fun hl => ⟨⟨rfl, rfl, rfl, h, hl⟩, qfin rfl rfl rfl rfl⟩⟩
end Go.Proofs.Ytmkjjopflncedaa.AX
end
section
namespace Go.Proofs.Ytmkjjopflncedaa.AXP
open Go Go.Proofs.Ytmkjjopflncedaa.AX
def nA : Nd := ⟨2, 0, ⟨#[]⟩, [], ⟨#[97]⟩, []⟩
def nB : Nd := ⟨2, 0, ⟨#[]⟩, [], ⟨#[98]⟩, []⟩
def wA : List Nd := [⟨1, 0, ⟨#[112]⟩, [], ⟨#[]⟩, [nA]⟩]
def wB : List Nd := [⟨1, 0, ⟨#[112]⟩, [], ⟨#[]⟩, [nB]⟩]
def wS : List Ed := [⟨4, [0, 0], ⟨0, 0, ⟨#[]⟩, [], ⟨#[97]⟩, []⟩, ⟨0, 0, ⟨#[]⟩, [], ⟨#[98]⟩, []⟩⟩]
end Go.Proofs.Ytmkjjopflncedaa.AXP
namespace Go.Proofs.Ytmkjjopflncedaa.AX
open Go AXP
def conScriptW : Con := conP [.row .node, .row .node] fun (a b : List Nd) => { pre := some (a = wA ∧ b = wB), res := .own 0 0, extra := [.rowb 0 .edit wS] }
def conApplyW : Con := conP [.row .node, .row .edit] fun (l : List Nd) (s : List Ed) => { pre := some (l = wA ∧ s = wS), res := .tup [.own 0 0, .int .i64 0], extra := [.rowb 0 .node wB] }
def conSizeW : Con := conP [.row .edit] fun (s : List Ed) => { pre := some (s = wS), res := .int .i64 1 }
def conEdSameW : Con := conP [.row .edit, .row .edit] fun (a b : List Ed) => { pre := some (a = b), res := .bool true }
def conNodesW : Con := conP [.row .node, .row .node] fun (a b : List Nd) => { pre := some (a = b), res := .bool true }
def conItsW : Con := conP [.row .int, .row .int] fun (a b : List Int) => { pre := some (a = b), res := .bool true }
def cold21 (r : Nat) : List Nat := match Nat.beq r 1 with | true => [1] | false => match Nat.beq r 2 with | true => [2] | false => match Nat.beq r 3 with | true => [3] | false => []
noncomputable def cxWord21 : Cx := cxC (tabLook [(28, conScriptW), (20, conApplyW), (53, conItsW), (19, conNodesW), (32, conSizeW), (22, conEdSameW)]) cold21
def conWord21 : Con := conP [] { res := .bool true }
noncomputable def cxJoins : Cx := cxT (tabLook [(26, conLg), (34, conLo 60), (20, conApply), (19, conNodes), (27, conWord21)])
noncomputable def cxMakes : Cx := cxT (tabLook [(26, conLg), (28, conScript), (20, conApply), (19, conNodes), (27, conWord21)])
end Go.Proofs.Ytmkjjopflncedaa.AX
end
section
namespace Go.Proofs.Ytmkjjopflncedaa.AX
open Go AXP
set_option maxRecDepth 100000
theorem vcWord21F (Q : List AV → List Blk → List Blk → Prop) : (funA cxWord21 (LL Try.f27 []) Try.f27 [] [] [] Q) = (
Rq
  ([Nd.mk (1 : Int) (0 : Int) (ByteArray.mk (Array.mk [(112 : UInt8)])) [] (ByteArray.mk (Array.mk []))
          [Nd.mk (2 : Int) (0 : Int) (ByteArray.mk (Array.mk [])) [] (ByteArray.mk (Array.mk [(97 : UInt8)])) []]] =
      wA ∧
    [Nd.mk (1 : Int) (0 : Int) (ByteArray.mk (Array.mk [(112 : UInt8)])) [] (ByteArray.mk (Array.mk []))
          [Nd.mk (2 : Int) (0 : Int) (ByteArray.mk (Array.mk [])) [] (ByteArray.mk (Array.mk [(98 : UInt8)])) []]] =
      wB)
  (Rq
    ([Nd.mk (1 : Int) (0 : Int) (ByteArray.mk (Array.mk [(112 : UInt8)])) [] (ByteArray.mk (Array.mk []))
            [Nd.mk (2 : Int) (0 : Int) (ByteArray.mk (Array.mk [])) [] (ByteArray.mk (Array.mk [(97 : UInt8)])) []]] =
        wA ∧
      wS = wS)
    (Br true
      (Br true
        (Rq ((0 : Int) ≤ (0 : Int) ∧ (0 : Int) < (↑wS.length : Int))
          (Br true
            (Rq ((0 : Int) ≤ (0 : Int) ∧ (0 : Int) < (↑wS.length : Int))
              (Rq ([(0 : Int), (0 : Int)] = [(0 : Int), (0 : Int)])
                (Br true
                  (Rq
                    (wB =
                      [Nd.mk (1 : Int) (0 : Int) (ByteArray.mk (Array.mk [(112 : UInt8)])) []
                          (ByteArray.mk (Array.mk []))
                          [Nd.mk (2 : Int) (0 : Int) (ByteArray.mk (Array.mk [])) []
                              (ByteArray.mk (Array.mk [(98 : UInt8)])) []]])
                    (Br true
                      (Rq (wS = wS)
                        (Br true (Rq (wS = wS) (Gv (wS.length ≤ maxSl) (Q [AV.bool true] [] [])))
                          (Gv (wS.length ≤ maxSl) (Q [AV.bool false] [] []))))
                      (Gv (wS.length ≤ maxSl) (Q [AV.bool false] [] []))))
                  (Gv (wS.length ≤ maxSl) (Q [AV.bool false] [] [])))))
            (Gv (wS.length ≤ maxSl) (Q [AV.bool false] [] []))))
        (Gv (wS.length ≤ maxSl) (Q [AV.bool false] [] [])))
      (Q [AV.bool false] [] [])))) := by kernel_rfl
theorem vcJoinsF (l : List Nd) (s t : List Ed) (Q : List AV → List Blk → List Blk → Prop) : (funA cxJoins (LL Try.f11 []) Try.f11 [.row .node l, .row .edit s, .row .edit t] [] [] Q) = (
Br (largeB l) (Q [AV.bool true] [] [])
  (Br (longB (60 : Int) s) (Q [AV.bool true] [] [])
    (Br (longB (60 : Int) t) (Q [AV.bool true] [] [])
      (Rq (s.length * (224 : Nat) ≤ maxSl)
        (Rq ((s.length + t.length) * (224 : Nat) ≤ maxSl)
          (Rq ((2 : Nat) * (wtNds l + wtEds (s ++ t)) ≤ wtMx)
            (Rq ((2 : Nat) * (wtNds l + wtEds s) ≤ wtMx)
              (Br (applyE l s != (0 : Int))
                (Br (applyE l (s ++ t) == applyE l s)
                  (Br ((↑(applyL l (s ++ t)).length : Int) == (0 : Int))
                    (Gv ((applyL l (s ++ t)).length ≤ maxSl) (Q [AV.bool true] [] []))
                    (Gv ((applyL l (s ++ t)).length ≤ maxSl) (Q [AV.bool false] [] [])))
                  (Q [AV.bool false] [] []))
                (Rq ((2 : Nat) * (wtNds (applyL l s) + wtEds t) ≤ wtMx)
                  (Br (applyE l (s ++ t) == applyE (applyL l s) t)
                    (Br (eql eqNd (applyL l (s ++ t)) (applyL (applyL l s) t)) (Q [AV.bool true] [] [])
                      (Q [AV.bool false] [] []))
                    (Q [AV.bool false] [] []))))))))))) := by kernel_rfl
theorem vcMakesF (a b : List Nd) (Q : List AV → List Blk → List Blk → Prop) : (funA cxMakes (LL Try.f9 []) Try.f9 [.row .node a, .row .node b] [] [] Q) = (
Br (largeB a) (Q [AV.bool true] [] [])
  (Br (largeB b) (Q [AV.bool true] [] [])
    (Rq (okSc (dpNds a + (1 : Nat)) a b [] [])
      (Rq ((2 : Nat) * (wtNds a + wtEds (scriptS a b [])) ≤ wtMx)
        (Br (applyE a (scriptS a b []) == (0 : Int))
          (Br (eql eqNd (applyL a (scriptS a b [])) b) (Q [AV.bool true] [] []) (Q [AV.bool false] [] []))
          (Q [AV.bool false] [] [])))))) := by kernel_rfl
theorem vcNothingF (a b : List Nd) (Q : List AV → List Blk → List Blk → Prop) : (funA cxMakes (LL Try.f10 []) Try.f10 [.row .node a, .row .node b] [] [] Q) = (
Br (largeB a) (Q [AV.bool true] [] [])
  (Br (largeB b) (Q [AV.bool true] [] [])
    (Rq (okSc (dpNds a + (1 : Nat)) a a [] [])
      (Br ((↑(scriptS a a []).length : Int) == (0 : Int))
        (Rq (okSc (dpNds a + (1 : Nat)) a b [] [])
          (Br (((↑(scriptS a b []).length : Int) == (0 : Int)) == eql eqNd a b)
            (Gv ((scriptS a a []).length ≤ maxSl) (Gv ((scriptS a b []).length ≤ maxSl) (Q [AV.bool true] [] [])))
            (Gv ((scriptS a a []).length ≤ maxSl) (Gv ((scriptS a b []).length ≤ maxSl) (Q [AV.bool false] [] [])))))
        (Gv ((scriptS a a []).length ≤ maxSl) (Q [AV.bool false] [] [])))))) := by kernel_rfl
end Go.Proofs.Ytmkjjopflncedaa.AX
end
section
namespace Go.Proofs.Ytmkjjopflncedaa.AX
open Go AXP
set_option maxRecDepth 100000
theorem Meets.of_pre {f : Nat} {args : List AV} {hp : List Blk} {p : Option Prop} {r : AV} {e : List Blk} (p' : Option Prop) (r' : AV) (e' : List Blk) (h : (∀ q, p = some q → q) → Meets cx0 f args hp { pre := p', res := r', extra := e' } ∧ (∀ q, p' = some q → q) ∧ r' = r ∧ e' = e) : Meets cx0 f args hp { pre := p, res := r, extra := e } := by
  intro F I w vals hH hv hpre
  obtain ⟨h1, h2, h3, h4⟩ := h hpre
  subst h3
  subst h4
  exact h1 F I w vals hH hv h2
theorem script_w : scriptS wA wB [] = wS := by kernel_rfl
theorem applyE_w : applyE wA wS = 0 := by kernel_rfl
theorem applyL_w : applyL wA wS = wB := by kernel_rfl
theorem size_w : sizeS wS = 1 := by kernel_rfl
theorem okSc_w : okSc (dpNds wA + 1) wA wB [] [] := by
  refine ⟨Nat.lt_succ_self _, ?_, ?_, of_decide_eq_true (by kernel_rfl), of_decide_eq_true (by kernel_rfl), of_decide_eq_true (by kernel_rfl), of_decide_eq_true (by kernel_rfl), of_decide_eq_true (by kernel_rfl), of_decide_eq_true (by kernel_rfl)⟩
  · simp [wA, nA, rngNds, rngNd, inI]
  · simp [wB, nB, rngNds, rngNd, inI]
theorem scriptW_holds : Holds 28 conScriptW := conP_holds fun a b => by
  refine Meets.of_pre (some (okSc (dpNds a + 1) a b [] [])) (.own 0 0) [.rowb 0 .edit (scriptS a b [])] fun h => ?_
  obtain ⟨h1, h2⟩ : a = wA ∧ b = wB := h _ rfl
  refine ⟨script_holds _ _ _ rfl, fun p hp => ?_, ?_⟩
  · injection hp with hp; subst hp; rw [h1, h2]; exact okSc_w
  · rw [h1, h2, script_w]; exact ⟨rfl, rfl⟩
theorem applyW_holds : Holds 20 conApplyW := conP_holds fun l s => by
  refine Meets.of_pre (some (2 * (wtNds l + wtEds s) ≤ wtMx)) (.tup [.own 0 0, .int .i64 (applyE l s)]) [.rowb 0 .node (applyL l s)] fun h => ?_
  obtain ⟨h1, h2⟩ : l = wA ∧ s = wS := h _ rfl
  refine ⟨apply_holds _ _ _ rfl, fun p hp => ?_, ?_⟩
  · injection hp with hp; subst hp; rw [h1, h2]; exact of_decide_eq_true (by kernel_rfl)
  · rw [h1, h2, applyE_w, applyL_w]; exact ⟨rfl, rfl⟩
theorem sizeW_holds : Holds 32 conSizeW := conP_holds fun s => by
  refine Meets.of_pre (some (sizeS s ≤ maxSl)) (.int .i64 (sizeS s)) [] fun h => ?_
  have h1 : s = wS := h _ rfl
  refine ⟨size_holds _ _ _ rfl, fun p hp => ?_, ?_⟩
  · injection hp with hp; subst hp; rw [h1, size_w]; unfold maxSl; decide
  · rw [h1, size_w]; exact ⟨rfl, rfl⟩
theorem edSameW_holds : Holds 22 conEdSameW := conP_holds fun a b => by
  refine Meets.of_pre none (.bool (eql eqEd a b)) [] fun h => ?_
  have h1 : a = b := h _ rfl
  refine ⟨edSame_holds _ _ _ rfl, fun p hp => (nomatch hp), ?_, rfl⟩
  rw [h1, eql_self eqEd_self]
theorem nodesW_holds : Holds 19 conNodesW := conP_holds fun a b => by
  refine Meets.of_pre none (.bool (eql eqNd a b)) [] fun h => ?_
  have h1 : a = b := h _ rfl
  refine ⟨nodes_holds _ _ _ rfl, fun p hp => (nomatch hp), ?_, rfl⟩
  rw [h1, eql_self eqNd_self]
theorem itsW_holds : Holds 53 conItsW := conP_holds fun a b => by
  refine Meets.of_pre none (.bool (eql eqI a b)) [] fun h => ?_
  have h1 : a = b := h _ rfl
  refine ⟨its_holds _ _ _ rfl, fun p hp => (nomatch hp), ?_, rfl⟩
  rw [h1, eql_self eqI_self]
theorem word21_holds : Holds 27 conWord21 := conP_holds (ps := []) (g := { res := .bool true }) <| by
  refine fun_meets0C (AllH.tok (.cons scriptW_holds (by kernel_rfl) (.cons applyW_holds (by kernel_rfl) (.cons itsW_holds (by kernel_rfl) (.cons nodesW_holds (by kernel_rfl) (.cons sizeW_holds (by kernel_rfl) (.cons edSameW_holds (by kernel_rfl) .nil))))))) cold21 [] (by kernel_rfl) (by kernel_rfl) fun hpre => Eq.mpr (vcWord21F _) ?_
  refine ⟨⟨rfl, rfl⟩, ⟨⟨rfl, rfl⟩, ⟨fun _ => ⟨fun _ => ⟨⟨by decide, by decide⟩, ⟨fun _ => ⟨⟨by decide, by decide⟩, ⟨rfl, ⟨fun _ => ⟨rfl, ⟨fun _ => ⟨rfl, ⟨fun _ => ⟨rfl, ⟨fun _ => qfin rfl rfl rfl rfl⟩⟩, fun h => (nomatch h)⟩⟩, fun h => (nomatch h)⟩⟩, fun h => (nomatch h)⟩⟩⟩, fun h => (nomatch h)⟩⟩, fun h => (nomatch h)⟩, fun h => (nomatch h)⟩⟩⟩
def conJoins : Con := conP [.row .node, .row .edit, .row .edit] fun (_ : List Nd) (_ _ : List Ed) => { res := .bool true }
theorem joins_holds : Holds 11 conJoins := conP_holds fun l s t => by
  rcases (show ∃ w : List Nd, w = l from ⟨_, rfl⟩) with ⟨l, rfl⟩
  rcases (show ∃ w : List Ed, w = s from ⟨_, rfl⟩) with ⟨s, rfl⟩
  rcases (show ∃ w : List Ed, w = t from ⟨_, rfl⟩) with ⟨t, rfl⟩
  refine fun_meets0 (AllH.tok (.cons lg21_holds (by kernel_rfl) (.cons lo21_holds (by kernel_rfl) (.cons apply_holds (by kernel_rfl) (.cons nodes_holds (by kernel_rfl) (.cons word21_holds (by kernel_rfl) .nil)))))) [] (by kernel_rfl) (by kernel_rfl) fun hpre => Eq.mpr (vcJoinsF l s t _) ?_
  refine ⟨fun _ => qfin rfl rfl rfl rfl, fun h1 => ⟨fun _ => qfin rfl rfl rfl rfl, fun h2 => ⟨fun _ => qfin rfl rfl rfl rfl, fun h3 => ?_⟩⟩⟩
  have w1 := large_wt h1
  obtain ⟨w2, n2⟩ := long_wt (by decide) h2
  obtain ⟨w3, n3⟩ := long_wt (by decide) h3
  have m : ∀ n : Nat, n ≤ 120 → n * 224 ≤ maxSl := fun n hn => Nat.le_trans (Nat.mul_le_mul_right _ hn) (by unfold maxSl; decide)
  have hst : wtEds (s ++ t) = wtEds s + wtEds t := wtEds_app s t
  refine Rq.mk (m _ (by omega)) ?_
  refine Rq.mk (m _ (by omega)) ?_
  refine Rq.mk (by rw [hst]; unfold wtMx; omega) ?_
  refine Rq.mk (by unfold wtMx; omega) ?_
  have happ : applyS l (s ++ t) = _ := applyS_app
  refine ⟨fun h4 => ?_, fun h4 => ?_⟩
  · have h4 : applyE l s ≠ 0 := by simpa using h4
    obtain ⟨e1, e2⟩ := applyE_ne h4
    rw [e1] at happ
    have happ : applyS l (s ++ t) = .error (applyE l s) := happ
    have f1 : applyE l (s ++ t) = applyE l s := (congrArg errX happ).trans rfl
    have f2 : applyL l (s ++ t) = [] := (congrArg okX happ).trans rfl
    rw [f1, f2]
    exact ⟨fun _ => ⟨fun _ => ⟨fun _ => qfin rfl rfl rfl rfl⟩, fun h => absurd (show (((([] : List Nd).length : Nat) : Int) == 0) = true from rfl) (by rw [h]; decide)⟩, fun h => absurd h (by simp)⟩
  · have h4 : applyE l s = 0 := by simpa using h4
    have e1 := applyE_zero h4
    have w4 := wt_apply e1
    rw [e1] at happ
    have happ : applyS l (s ++ t) = applyS (applyL l s) t := happ
    have f1 : applyE l (s ++ t) = applyE (applyL l s) t := congrArg errX happ
    have f2 : applyL l (s ++ t) = applyL (applyL l s) t := congrArg okX happ
    refine Rq.mk (by unfold wtMx; omega) ?_
    rw [f1, f2, eql_self eqNd_self]
    exact ⟨fun _ => ⟨fun _ => qfin rfl rfl rfl rfl, fun h => (nomatch h)⟩, fun h => absurd h (by simp)⟩
end Go.Proofs.Ytmkjjopflncedaa.AX
end
section
namespace Go.Proofs.Ytmkjjopflncedaa.AX
open Go AXP
/-- No edit of these weighs more than this. -/
def LeEds (m : Nat) (s : List Ed) : Prop := ∀ x ∈ s, wtEd x ≤ m
theorem LeEds.app {m : Nat} {s t : List Ed} (h : LeEds m s) (h' : LeEds m t) : LeEds m (s ++ t) := fun x hx => (List.mem_append.1 hx).elim (h x) (h' x)
theorem LeEds.wt {m : Nat} : ∀ {s : List Ed}, LeEds m s → wtEds s ≤ s.length * m
  | [], _ => Nat.zero_le _
  | x :: s, h => by
    have h1 := h x (.head _)
    have h2 := LeEds.wt (s := s) fun y hy => h y (.tail _ hy)
    rw [wtEds, List.length_cons, Nat.add_mul, Nat.one_mul]; omega
theorem wt_default : wtNd (default : Nd) = 1 := by decide
theorem dels_le {a : List Nd} {way : List Int} {t m : Nat} (hm : 3 + way.length + wtNds a ≤ m) : ∀ n i, i + n ≤ a.length → LeEds m (delsE a way t n i)
  | 0, _, _ => fun x hx => by simp [delsE] at hx
  | n + 1, i, h => by
    intro x hx
    rw [delsE] at hx
    rcases List.mem_cons.1 hx with rfl | hx
    · have := wt_mem (getD_mem (a := a) (i := i) (by omega))
      show 1 + (way ++ [(t : Int)]).length + wtNd (a.getD i default) + wtNd (default : Nd) ≤ m
      rw [wt_default, List.length_append, List.length_cons, List.length_nil]; omega
    · exact dels_le hm n (i + 1) (by omega) x hx
theorem inss_le {b : List Nd} {way : List Int} {m : Nat} (hm : 3 + way.length + wtNds b ≤ m) : ∀ n j, j + n ≤ b.length → LeEds m (inssE b way n j)
  | 0, _, _ => fun x hx => by simp [inssE] at hx
  | n + 1, j, h => by
    intro x hx
    rw [inssE] at hx
    rcases List.mem_cons.1 hx with rfl | hx
    · have := wt_mem (getD_mem (a := b) (i := j) (by omega))
      show 1 + (way ++ [(j : Int)]).length + wtNd (default : Nd) + wtNd (b.getD j default) ≤ m
      rw [wt_default, List.length_append, List.length_cons, List.length_nil]; omega
    · exact inss_le hm n (j + 1) (by omega) x hx
theorem at_le {x y : Nd} {W : List Int} {m : Nat} (hm : 1 + W.length + wtNd x + wtNd y ≤ m) : LeEds m (attE x y W) := by
  unfold attE
  split
  · exact fun z hz => by simp at hz
  · intro z hz
    rw [List.mem_singleton] at hz
    subst hz
    have h1 := wt_at1 x
    have h2 := wt_at1 y
    exact Nat.le_trans (Nat.add_le_add (Nat.add_le_add_left h1 _) h2) hm
theorem tx_le {x y : Nd} {W : List Int} {m : Nat} (hm : 1 + W.length + wtNd x + wtNd y ≤ m) : LeEds m (txtE x y W) := by
  unfold txtE
  split
  · exact fun z hz => by simp at hz
  · intro z hz
    rw [List.mem_singleton] at hz
    subst hz
    have h1 := wt_tx1 x
    have h2 := wt_tx1 y
    exact Nat.le_trans (Nat.add_le_add (Nat.add_le_add_left h1 _) h2) hm
theorem gen_le {r : List Nd → List Nd → List Int → List Ed} {a b : List Nd} {way : List Int} {e lab : Nat → Nat → Bool} {m : Nat} (hm : 3 + way.length + wtNds a + wtNds b ≤ m)
    (hr : ∀ x y v, x < a.length → y < b.length → LeEds m (r (a.getD x default).kids (b.getD y default).kids (way ++ [v]))) : ∀ {ps : List Pr} {i j : Nat}, RiseL e lab a.length b.length i j ps → i ≤ a.length → j ≤ b.length → LeEds m (genE r a b way ps i j)
  | [], i, j, _, hi, hj => by
    rw [genE]
    exact .app (dels_le (by omega) _ _ (by omega)) (inss_le (by omega) _ _ (by omega))
  | p :: ps, i, j, h, hi, hj => by
    obtain ⟨x, y, w, rfl, h1, h2, h3, h4, h5, h6, h7⟩ := h
    rw [genE]
    simp only [Int.toNat_natCast]
    refine .app (.app (.app (dels_le (by omega) _ _ (by omega)) (inss_le (by omega) _ _ (by omega))) ?_) (gen_le hm hr h7 h3 h4)
    have m1 := wt_mem (getD_mem h3)
    have m2 := wt_mem (getD_mem h4)
    split
    · exact fun z hz => by simp at hz
    · unfold alikeE
      refine .app (.app (at_le ?_) (tx_le ?_)) (hr x y _ h3 h4)
      · rw [List.length_append, List.length_cons, List.length_nil]; omega
      · rw [List.length_append, List.length_cons, List.length_nil]; omega
theorem script_le : ∀ (k : Nat) (a b : List Nd) (way : List Int) (m : Nat), 3 + way.length + k + wtNds a + wtNds b ≤ m → LeEds m (scriptF k a b way)
  | 0, _, _, _, _, _ => fun x hx => by simp [scriptF] at hx
  | k + 1, a, b, way, m, h => by
    rw [scriptF]
    refine gen_le (by omega) (fun x y v hx hy => ?_) (pairs_rise a b) (Nat.zero_le _) (Nat.zero_le _)
    refine script_le k _ _ _ m ?_
    have m1 := wt_mem (getD_mem hx)
    have m2 := wt_mem (getD_mem hy)
    rw [wtNd_eq] at m1 m2
    rw [List.length_append, List.length_cons, List.length_nil]; omega
end Go.Proofs.Ytmkjjopflncedaa.AX
end
section
namespace Go.Proofs.Ytmkjjopflncedaa.AXP
open Go Go.Proofs.Ytmkjjopflncedaa.AX
mutual
def smNd : Nd → Prop
  | ⟨_, _, m, a, t, c⟩ => m.size ≤ 100 ∧ t.size ≤ 5000 ∧ a.length ≤ 40 ∧ (∀ x ∈ a, x.name.size ≤ 100 ∧ x.value.size ≤ 2000) ∧ smNds c
def smNds : List Nd → Prop
  | [] => True
  | n :: l => smNd n ∧ smNds l
end
theorem attBad_no {a : List At} (h : attBad a = false) : ∀ x ∈ a, x.name.size ≤ 100 ∧ x.value.size ≤ 2000 := fun x hx => by
  have h1 : attBad1 x = false := by
    cases hb : attBad1 x with
    | false => rfl
    | true => have : attBad a = true := by unfold attBad; rw [List.any_eq_true]; exact ⟨x, hx, hb⟩
              rw [this] at h; cases h
  unfold attBad1 at h1
  simp only [Bool.or_eq_false_iff, decide_eq_false_iff_not] at h1
  omega
mutual
theorem lgNd_sm : ∀ (x : Nd) (d n : Int), (lgNd d x n).1 = false → smNd x
  | ⟨k, s, m, a, t, c⟩, d, n, h => by
    rw [lgNd_eq] at h
    cases hb : badNd ⟨k, s, m, a, t, c⟩ n with
    | true => rw [hb] at h; cases h
    | false =>
      have hn := badNd_no hb
      dsimp only at hn
      rw [hb, if_neg (by decide)] at h
      cases ha : attBad a with
      | true => simp only [ha, if_true] at h; cases h
      | false =>
        simp only [ha, Bool.false_eq_true, if_false] at h
        rw [smNd]
        refine ⟨by omega, by omega, by omega, attBad_no ha, ?_⟩
        unfold lgNds topOf at h
        split at h
        · cases h
        · split at h
          · cases h
          · rename_i h4
            exact lgLoop_sm c _ _ (by simpa using h4)
theorem lgLoop_sm : ∀ (l : List Nd) (d n : Int), (lgLoop d l n).1 = false → smNds l
  | [], d, n, _ => by rw [smNds]; trivial
  | x :: l, d, n, h => by
    rw [lgLoop] at h
    split at h
    · cases h
    · rename_i h1
      rw [smNds]
      exact ⟨lgNd_sm x d n (by simpa using h1), lgLoop_sm l d _ h⟩
end
theorem large_sm {l : List Nd} (h : largeB l = false) : smNds l := by
  have h : (lgNds 1 l 250).1 = false := h
  unfold lgNds topOf at h
  split at h
  · cases h
  · split at h
    · cases h
    · rename_i h4
      exact lgLoop_sm l _ _ (by simpa using h4)
theorem dig_nat {n : Nat} (h : n < 9223372036854775808) : (digS (n : Int)).size ≤ 21 := dig_size (by omega) (by omega)
theorem txt_sz {s : ByteArray} {m : Nat} (h : s.size ≤ m) (hm : m < 9223372036854775808) : (txtS s).size ≤ 21 + m := by
  unfold txtS
  rw [ByteArray.size_append]
  have := dig_nat (n := s.size) (by omega)
  omega
theorem atts_sz : ∀ {a : List At}, (∀ x ∈ a, x.name.size ≤ 100 ∧ x.value.size ≤ 2000) → (attsS a).size ≤ 2142 * a.length
  | [], _ => by rw [attsS]; exact Nat.zero_le _
  | x :: a, h => by
    have ih := atts_sz (a := a) fun y hy => h y (.tail _ hy)
    obtain ⟨h1, h2⟩ := h x (.head _)
    have t1 := txt_sz h1 (by decide)
    have t2 := txt_sz h2 (by decide)
    rw [attsS]
    simp only [ByteArray.size_append, List.length_cons]
    omega
mutual
theorem key_sz : ∀ (x : Nd), smNd x → rngNd x → wtNd x ≤ 1000000 → (keyS x).size ≤ 6000 * wtNd x
  | ⟨k, s, m, a, t, c⟩, h, hr, hw => by
    rw [smNd] at h
    rw [rngNd] at hr
    rw [wtNd] at hw
    obtain ⟨h1, h2, h3, h4, h5⟩ := h
    obtain ⟨r1, r2, r3⟩ := hr
    have d1 := dig_size r1.1 r1.2
    have d2 := dig_size r2.1 r2.2
    have t1 := txt_sz h1 (by decide)
    have t2 := txt_sz h2 (by decide)
    have t3 := atts_sz h4
    have d3 := dig_nat (n := a.length) (by omega)
    have l1 := wt_len c
    have d4 := dig_nat (n := c.length) (by omega)
    have ih := keys_sz c h5 r3 (by omega)
    rw [keyS, wtNd]
    simp only [ByteArray.size_append]
    omega
theorem keys_sz : ∀ (l : List Nd), smNds l → rngNds l → wtNds l ≤ 1000000 → (keysS l).size ≤ 6000 * wtNds l
  | [], _, _, _ => by rw [keysS]; exact Nat.zero_le _
  | x :: l, h, hr, hw => by
    rw [smNds] at h
    rw [rngNds] at hr
    rw [wtNds] at hw
    have i1 := key_sz x h.1 hr.1 (by omega)
    have i2 := keys_sz l h.2 hr.2 (by omega)
    rw [keysS, wtNds, ByteArray.size_append]
    omega
end
mutual
theorem dp_wtNd : ∀ x : Nd, dpNd x ≤ wtNd x
  | ⟨_, _, _, a, _, c⟩ => by rw [dpNd, wtNd]; have := dp_wt c; omega
theorem dp_wt : ∀ l : List Nd, dpNds l ≤ wtNds l
  | [] => by rw [dpNds]; exact Nat.zero_le _
  | x :: l => by rw [dpNds, wtNds]; have := dp_wtNd x; have := dp_wt l; omega
end
end Go.Proofs.Ytmkjjopflncedaa.AXP
namespace Go.Proofs.Ytmkjjopflncedaa.AX
open Go AXP
theorem okSc_large {a b : List Nd} (ha : largeB a = false) (hb : largeB b = false) (ra : rngNds a) (rb : rngNds b) : okSc (dpNds a + 1) a b [] [] := by
  have wa := large_wt ha
  have wb := large_wt hb
  have ka := keys_sz a (large_sm ha) ra (by omega)
  have kb := keys_sz b (large_sm hb) rb (by omega)
  have da := dp_wt a
  refine ⟨Nat.lt_succ_self _, ra, rb, ?_, ?_, by unfold wtMx; omega, by unfold wtMx; omega, ?_, ?_⟩
  · unfold maxSl; omega
  · unfold maxSl; omega
  · rw [List.length_nil]; unfold roomMx; omega
  · rw [List.length_nil]; unfold roomMx; omega
/-- How much a script of such nodes weighs. -/
theorem wt_script {a b : List Nd} (ha : largeB a = false) (hb : largeB b = false) : wtEds (scriptS a b []) ≤ 1200000 := by
  have wa := large_wt ha
  have wb := large_wt hb
  have da := dp_wt a
  have h1 := (script_le (dpNds a + 1) a b [] 760 (by rw [List.length_nil]; omega)).wt
  have h2 := scriptF_len (dpNds a + 1) a b []
  have h3 : (scriptF (dpNds a + 1) a b []).length ≤ 1500 := by omega
  show wtEds (scriptF (dpNds a + 1) a b []) ≤ _
  omega
end Go.Proofs.Ytmkjjopflncedaa.AX
end
section
namespace Go.Proofs.Ytmkjjopflncedaa.AX
open Go AXP
set_option maxRecDepth 100000
def conMakes : Con := conP [.row .node, .row .node] fun (a b : List Nd) => { pre := some (rngNds a ∧ rngNds b), res := .bool true }
theorem makes_holds : Holds 9 conMakes := conP_holds fun a b => by
  rcases (show ∃ w : List Nd, w = a from ⟨_, rfl⟩) with ⟨a, rfl⟩
  rcases (show ∃ w : List Nd, w = b from ⟨_, rfl⟩) with ⟨b, rfl⟩
  refine fun_meets0 (AllH.tok (.cons lg21_holds (by kernel_rfl) (.cons script_holds (by kernel_rfl) (.cons apply_holds (by kernel_rfl) (.cons nodes_holds (by kernel_rfl) (.cons word21_holds (by kernel_rfl) .nil)))))) [] (by kernel_rfl) (by kernel_rfl) fun hpre => Eq.mpr (vcMakesF a b _) ?_
  obtain ⟨ra, rb⟩ : rngNds a ∧ rngNds b := hpre _ rfl
  refine ⟨fun _ => qfin rfl rfl rfl rfl, fun h1 => ⟨fun _ => qfin rfl rfl rfl rfl, fun h2 => ?_⟩⟩
  have w1 := large_wt h1
  have w2 := wt_script h1 h2
  have e := script_makes a b
  have e1 : applyE a (scriptS a b []) = 0 := (congrArg errX e).trans rfl
  have e2 : applyL a (scriptS a b []) = b := (congrArg okX e).trans rfl
  refine ⟨okSc_large h1 h2 ra rb, ⟨by unfold wtMx; omega, ?_⟩⟩
  rw [e1, e2, eql_self eqNd_self]
  exact ⟨fun _ => ⟨fun _ => qfin rfl rfl rfl rfl, fun h => (nomatch h)⟩, fun h => (nomatch h)⟩
theorem nothing_holds : Holds 10 conMakes := conP_holds fun a b => by
  rcases (show ∃ w : List Nd, w = a from ⟨_, rfl⟩) with ⟨a, rfl⟩
  rcases (show ∃ w : List Nd, w = b from ⟨_, rfl⟩) with ⟨b, rfl⟩
  refine fun_meets0 (AllH.tok (.cons lg21_holds (by kernel_rfl) (.cons script_holds (by kernel_rfl) (.cons apply_holds (by kernel_rfl) (.cons nodes_holds (by kernel_rfl) (.cons word21_holds (by kernel_rfl) .nil)))))) [] (by kernel_rfl) (by kernel_rfl) fun hpre => Eq.mpr (vcNothingF a b _) ?_
  obtain ⟨ra, rb⟩ : rngNds a ∧ rngNds b := hpre _ rfl
  refine ⟨fun _ => qfin rfl rfl rfl rfl, fun h1 => ⟨fun _ => qfin rfl rfl rfl rfl, fun h2 => ?_⟩⟩
  refine ⟨okSc_large h1 h1 ra ra, ?_⟩
  rw [script_self]
  refine ⟨fun _ => ⟨okSc_large h1 h2 ra rb, ?_⟩, fun h => absurd (show (((([] : List Ed).length : Nat) : Int) == 0) = true from rfl) (by rw [h]; decide)⟩
  have e : ((((scriptS a b []).length : Nat) : Int) == 0) = eql eqNd a b := by
    rw [Bool.eq_iff_iff, eql_iff eqNd_iff, ← script_nil, beq_iff_eq]
    constructor
    · intro h; exact List.eq_nil_of_length_eq_zero (by omega)
    · intro h; rw [h]; rfl
  rw [e, beq_self_eq_true]
  exact ⟨fun _ => ⟨fun _ => ⟨fun _ => qfin rfl rfl rfl rfl⟩⟩, fun h => (nomatch h)⟩
end Go.Proofs.Ytmkjjopflncedaa.AX
end
section
namespace Go.Proofs.Ytmkjjopflncedaa.AX
open Go AXP
noncomputable def conC8Lt (k : Nat) : Con := conP [.row .node] fun (l : List Nd) => { pre := some (cntNds l < k ∧ cntNds l ≤ maxSl), res := .int .i64 (cntNds l) }
noncomputable def cxC8 (k : Nat) : Cx := cxT (tabLook [(59, conC8Lt k)])
def lsC8 (k : Nat) : LS where
  keep := [(3, .as), (6, .as), (7, .as), (8, .as)]
  left := [(3, .as)]
  sum := fun vs bs K => match vs, bs with
    | [.int .i64 n, .row .node l, .int .i64 m, .int .i64 i], [] => Rq (m = l.length ∧ i = 0 ∧ n = 0 ∧ cntNds l < k + 1 ∧ cntNds l ≤ maxSl) (K (.exit 0) [.int .i64 (cntNds l)] [])
    | _, _ => False
def conC8 : Con := conP [.row .node] fun (l : List Nd) => { pre := some (cntNds l ≤ maxSl), res := .int .i64 (cntNds l) }
noncomputable def cxSz21 : Cx := cxT (tabLook [(59, conC8)])
def lsSz21 : LS where
  keep := [(3, .as), (6, .as), (7, .as), (8, .as)]
  left := [(3, .as)]
  sum := fun vs bs K => match vs, bs with
    | [.int .i64 n, .row .redit s, .int .i64 m, .int .i64 i], [] => Rq (m = s.length ∧ i = 0 ∧ n = 0 ∧ sizeS s ≤ maxSl ∧ s.length ≤ maxSl) (K (.exit 0) [.int .i64 (sizeS s)] [])
    | _, _ => False
def conSz21 : Con := conP [.row .redit] fun (s : List Ed) => { pre := some (sizeS s ≤ maxSl), res := .int .i64 (sizeS s) }
noncomputable def cxSm21 : Cx := cxT (tabLook [(53, conIts), (38, conNode')])
def lsSm21 : LS where
  keep := [(0, .as), (1, .as), (7, .as), (8, .as), (9, .as)]
  left := [(0, .as), (1, .as), (4, .as)]
  sum := fun vs bs K => match vs, bs with
    | [.row .redit a, .row .redit b, .row .redit c, .int .i64 m, .int .i64 i], [] => Rq (c = a ∧ m = a.length ∧ i = 0 ∧ a.length ≤ maxSl) (Br (beg eqEd a b) (K (.exit 0) [.row .redit a, .row .redit b, .any] []) (K .ret [.row .redit a, .row .redit b, .bool false] []))
    | _, _ => False
def conSm21 : Con := conP [.row .redit, .row .redit] fun (a b : List Ed) => { res := .bool (eql eqEd a b) }
def lsRef21 : LS where
  keep := [(3, .own .redit), (6, .as), (7, .as), (8, .as)]
  left := [(3, .own .redit)]
  sum := fun vs bs K => match vs, bs with
    | [.own 0 0, .row .edit s, .int .i64 m, .int .i64 i], [.rowb 0 .redit l] => Rq (m = s.length ∧ i = 0 ∧ l.length = 0 ∧ s.length * 224 ≤ maxSl) (K (.exit 0) [.own 0 0] [.rowb 0 .redit s])
    | _, _ => False
def conRef21 : Con := conP [.row .edit] fun (s : List Ed) => { pre := some (s.length * 224 ≤ maxSl), res := .row .redit s }
noncomputable def cxLawS : Cx := cxC (tabLook [(26, conLg), (28, conScript), (29, conS21), (31, conRef21), (30, conSm21), (32, conSize), (33, conSz21), (27, conWord21)]) fun r => match Nat.beq r 3 with | true => [5] | false => match Nat.beq r 4 with | true => [6] | false => []
noncomputable def cxLawO : Cx := cxC (tabLook [(26, conLg), (28, conScript), (20, conApply), (19, conNodes), (29, conS21), (31, conRef21), (30, conSm21), (27, conWord21)]) fun r => match Nat.beq r 3 with | true => [5] | false => []
def lsLawO : LS where
  keep := [(0, .as), (1, .as), (5, .as), (6, .own .node), (7, .as), (8, .own .node), (9, .as), (36, .as), (37, .as)]
  left := [(0, .as), (1, .as), (5, .as), (7, .as), (8, .own .node), (9, .as)]
  sum := fun vs bs K => match vs, bs with
    | [.row .node a, .row .node b, .row .edit s, .own 0 0, .int .i64 e, .own 1 0, .int .i64 f, .int .i64 m, .int .i64 i], [.rowb 0 .node x, .rowb 0 .node y] => Rq (m = x.length ∧ i = 0 ∧ x.length ≤ maxSl) (K (.exit 0) [.row .node a, .row .node b, .row .edit s, .int .i64 e, .own 0 0, .int .i64 f] [.rowb 0 .node y])
    | _, _ => False
end Go.Proofs.Ytmkjjopflncedaa.AX
end
section
namespace Go.Proofs.Ytmkjjopflncedaa.AX
open Go AXP
set_option maxRecDepth 100000
theorem vcC8B (k : Nat) (l : List Nd) (n m i : Int) (K : Ex → List AV → List Blk → Prop) : (bodyA (cxC8 k) (LL Try.f59 [lsC8 k]) Try.f59.ntmps (loopAt Try.f59 0).1 (loopAt Try.f59 0).2 (lsC8 k).keep (lsC8 k).left K [.int .i64 n, .row .node l, .int .i64 m, .int .i64 i] []) = (
Br (decide (i < m))
  (Rq ((0 : Int) ≤ i ∧ i < (↑l.length : Int))
    (Rq (cntNds (rd Ty.node l i).6 < k ∧ cntNds (rd Ty.node l i).6 ≤ maxSl)
      (K Ex.norm
        [AV.int IntKind.i64
            (IntKind.i64.wrap (IntKind.i64.wrap (n + (1 : Int)) + (↑(cntNds (rd Ty.node l i).6) : Int))),
          AV.row Ty.node l, AV.int IntKind.i64 m, AV.int IntKind.i64 (IntKind.i64.wrap (i + (1 : Int)))]
        [])))
  (K (Ex.exit (0 : Nat)) [AV.int IntKind.i64 n] [])) := by kernel_rfl
theorem vcC8F (k : Nat) (l : List Nd) (Q : List AV → List Blk → List Blk → Prop) : (funA (cxC8 k) (LL Try.f59 [lsC8 k]) Try.f59 [.row .node l] [] [] Q) = (
Gv (l.length ≤ maxSl)
  (Rq
    ((↑l.length : Int) = (↑l.length : Int) ∧
      (0 : Int) = (0 : Int) ∧ (0 : Int) = (0 : Int) ∧ cntNds l < k + (1 : Nat) ∧ cntNds l ≤ maxSl)
    (Q [AV.int IntKind.i64 (↑(cntNds l) : Int)] [] []))) := by kernel_rfl
theorem vcSz21B (s : List Ed) (n m i : Int) (K : Ex → List AV → List Blk → Prop) : (bodyA cxSz21 (LL Try.f33 [lsSz21]) Try.f33.ntmps (loopAt Try.f33 0).1 (loopAt Try.f33 0).2 lsSz21.keep lsSz21.left K [.int .i64 n, .row .redit s, .int .i64 m, .int .i64 i] []) = (
Br (decide (i < m))
  (Rq ((0 : Int) ≤ i ∧ i < (↑s.length : Int))
    (Br ((rd Ty.redit s i).1 == (1 : Int))
      (Rq (cntNds (rd Ty.redit s i).4.6 ≤ maxSl)
        (Br ((rd Ty.redit s i).1 == (2 : Int))
          (Rq (cntNds (rd Ty.redit s i).3.6 ≤ maxSl)
            (K Ex.norm
              [AV.int IntKind.i64
                  (IntKind.i64.wrap
                    (IntKind.i64.wrap (IntKind.i64.wrap (n + (1 : Int)) + (↑(cntNds (rd Ty.redit s i).4.6) : Int)) +
                      (↑(cntNds (rd Ty.redit s i).3.6) : Int))),
                AV.row Ty.redit s, AV.int IntKind.i64 m, AV.int IntKind.i64 (IntKind.i64.wrap (i + (1 : Int)))]
              []))
          (K Ex.norm
            [AV.int IntKind.i64
                (IntKind.i64.wrap (IntKind.i64.wrap (n + (1 : Int)) + (↑(cntNds (rd Ty.redit s i).4.6) : Int))),
              AV.row Ty.redit s, AV.int IntKind.i64 m, AV.int IntKind.i64 (IntKind.i64.wrap (i + (1 : Int)))]
            [])))
      (Br ((rd Ty.redit s i).1 == (2 : Int))
        (Rq (cntNds (rd Ty.redit s i).3.6 ≤ maxSl)
          (K Ex.norm
            [AV.int IntKind.i64
                (IntKind.i64.wrap (IntKind.i64.wrap (n + (1 : Int)) + (↑(cntNds (rd Ty.redit s i).3.6) : Int))),
              AV.row Ty.redit s, AV.int IntKind.i64 m, AV.int IntKind.i64 (IntKind.i64.wrap (i + (1 : Int)))]
            []))
        (K Ex.norm
          [AV.int IntKind.i64 (IntKind.i64.wrap (n + (1 : Int))), AV.row Ty.redit s, AV.int IntKind.i64 m,
            AV.int IntKind.i64 (IntKind.i64.wrap (i + (1 : Int)))]
          []))))
  (K (Ex.exit (0 : Nat)) [AV.int IntKind.i64 n] [])) := by kernel_rfl
theorem vcSz21F (s : List Ed) (Q : List AV → List Blk → List Blk → Prop) : (funA cxSz21 (LL Try.f33 [lsSz21]) Try.f33 [.row .redit s] [] [] Q) = (
Gv (s.length ≤ maxSl)
  (Rq
    ((↑s.length : Int) = (↑s.length : Int) ∧
      (0 : Int) = (0 : Int) ∧ (0 : Int) = (0 : Int) ∧ sizeS s ≤ maxSl ∧ s.length ≤ maxSl)
    (Q [AV.int IntKind.i64 (↑(sizeS s) : Int)] [] []))) := by kernel_rfl
theorem vcSm21B (a b c : List Ed) (m i : Int) (K : Ex → List AV → List Blk → Prop) : (bodyA cxSm21 (LL Try.f30 [lsSm21]) Try.f30.ntmps (loopAt Try.f30 0).1 (loopAt Try.f30 0).2 lsSm21.keep lsSm21.left K [.row .redit a, .row .redit b, .row .redit c, .int .i64 m, .int .i64 i] []) = (
Br (decide (i < m))
  (Rq ((0 : Int) ≤ i ∧ i < (↑c.length : Int))
    (Br (decide (i ≥ (↑b.length : Int)))
      (Gv (b.length ≤ maxSl) (K Ex.ret [AV.row Ty.redit a, AV.row Ty.redit b, AV.bool false] []))
      (Rq ((0 : Int) ≤ i ∧ i < (↑b.length : Int))
        (Br ((rd Ty.redit c i).1 != (rd Ty.redit b i).1)
          (Gv (b.length ≤ maxSl) (K Ex.ret [AV.row Ty.redit a, AV.row Ty.redit b, AV.bool false] []))
          (Rq ((0 : Int) ≤ i ∧ i < (↑b.length : Int))
            (Br (!eql eqI (rd Ty.redit c i).2 (rd Ty.redit b i).2)
              (Gv (b.length ≤ maxSl) (K Ex.ret [AV.row Ty.redit a, AV.row Ty.redit b, AV.bool false] []))
              (Rq ((0 : Int) ≤ i ∧ i < (↑b.length : Int))
                (Br
                  (!eqNd
                      (Nd.mk (rd Ty.redit c i).3.1 (rd Ty.redit c i).3.2 (rd Ty.redit c i).3.3 (rd Ty.redit c i).3.4
                        (rd Ty.redit c i).3.5 (rd Ty.redit c i).3.6)
                      (Nd.mk (rd Ty.redit b i).3.1 (rd Ty.redit b i).3.2 (rd Ty.redit b i).3.3 (rd Ty.redit b i).3.4
                        (rd Ty.redit b i).3.5 (rd Ty.redit b i).3.6))
                  (Gv (b.length ≤ maxSl) (K Ex.ret [AV.row Ty.redit a, AV.row Ty.redit b, AV.bool false] []))
                  (Rq ((0 : Int) ≤ i ∧ i < (↑b.length : Int))
                    (Gv (b.length ≤ maxSl)
                      (Br
                        (!eqNd
                            (Nd.mk (rd Ty.redit c i).4.1 (rd Ty.redit c i).4.2 (rd Ty.redit c i).4.3
                              (rd Ty.redit c i).4.4 (rd Ty.redit c i).4.5 (rd Ty.redit c i).4.6)
                            (Nd.mk (rd Ty.redit b i).4.1 (rd Ty.redit b i).4.2 (rd Ty.redit b i).4.3
                              (rd Ty.redit b i).4.4 (rd Ty.redit b i).4.5 (rd Ty.redit b i).4.6))
                        (K Ex.ret [AV.row Ty.redit a, AV.row Ty.redit b, AV.bool false] [])
                        (K Ex.norm
                          [AV.row Ty.redit a, AV.row Ty.redit b, AV.row Ty.redit c, AV.int IntKind.i64 m,
                            AV.int IntKind.i64 (IntKind.i64.wrap (i + (1 : Int)))]
                          []))))))))))))
  (K (Ex.exit (0 : Nat)) [AV.row Ty.redit a, AV.row Ty.redit b, AV.any] [])) := by kernel_rfl
theorem vcSm21F (a b : List Ed) (Q : List AV → List Blk → List Blk → Prop) : (funA cxSm21 (LL Try.f30 [lsSm21]) Try.f30 [.row .redit a, .row .redit b] [] [] Q) = (
Gv (a.length ≤ maxSl)
  (Rq (a = a ∧ (↑a.length : Int) = (↑a.length : Int) ∧ (0 : Int) = (0 : Int) ∧ a.length ≤ maxSl)
    (Br (beg eqEd a b)
      (Gv (a.length ≤ maxSl) (Gv (b.length ≤ maxSl) (Q [AV.bool ((↑a.length : Int) == (↑b.length : Int))] [] [])))
      (Q [AV.bool false] [] [])))) := by kernel_rfl
theorem vcRef21B (l s : List Ed) (m i : Int) (K : Ex → List AV → List Blk → Prop) : (bodyA cx0 (LL Try.f31 [lsRef21]) Try.f31.ntmps (loopAt Try.f31 0).1 (loopAt Try.f31 0).2 lsRef21.keep lsRef21.left K [.own 0 0, .row .edit s, .int .i64 m, .int .i64 i] [.rowb 0 .redit l]) = (
Br (decide (i < m))
  (Rq ((0 : Int) ≤ i ∧ i < (↑s.length : Int))
    (Rq
      ((l.length +
            [Ed.mk (rd Ty.edit s i).1 (rd Ty.edit s i).2
                  (Nd.mk (rd Ty.edit s i).3.1 (rd Ty.edit s i).3.2 (rd Ty.edit s i).3.3 (rd Ty.edit s i).3.4
                    (rd Ty.edit s i).3.5 (rd Ty.edit s i).3.6)
                  (Nd.mk (rd Ty.edit s i).4.1 (rd Ty.edit s i).4.2 (rd Ty.edit s i).4.3 (rd Ty.edit s i).4.4
                    (rd Ty.edit s i).4.5 (rd Ty.edit s i).4.6)].length) *
          (224 : Nat) ≤
        maxSl)
      (K Ex.norm
        [AV.own (0 : Nat) (0 : Nat), AV.row Ty.edit s, AV.int IntKind.i64 m,
          AV.int IntKind.i64 (IntKind.i64.wrap (i + (1 : Int)))]
        [Blk.rowb (0 : Nat) Ty.redit
            (l ++
              [Ed.mk (rd Ty.edit s i).1 (rd Ty.edit s i).2
                  (Nd.mk (rd Ty.edit s i).3.1 (rd Ty.edit s i).3.2 (rd Ty.edit s i).3.3 (rd Ty.edit s i).3.4
                    (rd Ty.edit s i).3.5 (rd Ty.edit s i).3.6)
                  (Nd.mk (rd Ty.edit s i).4.1 (rd Ty.edit s i).4.2 (rd Ty.edit s i).4.3 (rd Ty.edit s i).4.4
                    (rd Ty.edit s i).4.5 (rd Ty.edit s i).4.6)])])))
  (K (Ex.exit (0 : Nat)) [AV.own (0 : Nat) (0 : Nat)] [Blk.rowb (0 : Nat) Ty.redit l])) := by kernel_rfl
theorem vcRef21F (s : List Ed) (Q : List AV → List Blk → List Blk → Prop) : (funA cx0 (LL Try.f31 [lsRef21]) Try.f31 [.row .edit s] [] [.row .redit] Q) = (
Gv (s.length ≤ maxSl)
  (Rq
    ((↑s.length : Int) = (↑s.length : Int) ∧
      (0 : Int) = (0 : Int) ∧ (0 : Nat) = (0 : Nat) ∧ s.length * (224 : Nat) ≤ maxSl)
    (Q [AV.row Ty.redit s] [] []))) := by kernel_rfl
theorem vcLawSF (a b : List Nd) (Q : List AV → List Blk → List Blk → Prop) : (funA cxLawS (LL Try.f8 []) Try.f8 [.row .node a, .row .node b] [] [] Q) = (
Br (largeB a) (Q [AV.bool true] [] [])
  (Br (largeB b) (Q [AV.bool true] [] [])
    (Rq (okSc (dpNds a + (1 : Nat)) a b [] [])
      (Rq (okR (dpNds a + (1 : Nat)) a b [])
        (Rq ((scriptS a b []).length * (224 : Nat) ≤ maxSl)
          (Br (eql eqEd (scriptS a b []) (scriptS a b []))
            (Rq (sizeS (scriptS a b []) ≤ maxSl)
              (Rq (sizeS (scriptS a b []) ≤ maxSl)
                (Br ((↑(sizeS (scriptS a b [])) : Int) == (↑(sizeS (scriptS a b [])) : Int)) (Q [AV.bool true] [] [])
                  (Q [AV.bool false] [] []))))
            (Q [AV.bool false] [] []))))))) := by kernel_rfl
theorem vcLawOB (a b x y : List Nd) (s : List Ed) (e f m i : Int) (K : Ex → List AV → List Blk → Prop) : (bodyA cxLawO (LL Try.f12 [lsLawO]) Try.f12.ntmps (loopAt Try.f12 0).1 (loopAt Try.f12 0).2 lsLawO.keep lsLawO.left K [.row .node a, .row .node b, .row .edit s, .own 0 0, .int .i64 e, .own 1 0, .int .i64 f, .int .i64 m, .int .i64 i] [.rowb 0 .node x, .rowb 0 .node y]) = (
Br (decide (i < m))
  (Rq ((0 : Int) ≤ i ∧ i < (↑x.length : Int))
    (Rq
      ((0 : Int) ≤ i ∧
        i <
          (↑(x.set i.toNat
                  (Nd.mk (rd Ty.node x i).1 (rd Ty.node x i).2 (rd Ty.node x i).3 (rd Ty.node x i).4
                    (ByteArray.mk (Array.mk [(122 : UInt8), (122 : UInt8)])) (rd Ty.node x i).6)).length :
            Int))
      (K Ex.norm
        [AV.row Ty.node a, AV.row Ty.node b, AV.row Ty.edit s, AV.own (0 : Nat) (0 : Nat), AV.int IntKind.i64 e,
          AV.own ((0 : Nat) + (1 : Nat)) (0 : Nat), AV.int IntKind.i64 f, AV.int IntKind.i64 m,
          AV.int IntKind.i64 (IntKind.i64.wrap (i + (1 : Int)))]
        [Blk.rowb (0 : Nat) Ty.node
            ((x.set i.toNat
                  (Nd.mk (rd Ty.node x i).1 (rd Ty.node x i).2 (rd Ty.node x i).3 (rd Ty.node x i).4
                    (ByteArray.mk (Array.mk [(122 : UInt8), (122 : UInt8)])) (rd Ty.node x i).6)).set
              i.toNat
              (Nd.mk
                (rd Ty.node
                    (x.set i.toNat
                      (Nd.mk (rd Ty.node x i).1 (rd Ty.node x i).2 (rd Ty.node x i).3 (rd Ty.node x i).4
                        (ByteArray.mk (Array.mk [(122 : UInt8), (122 : UInt8)])) (rd Ty.node x i).6))
                    i).1
                (rd Ty.node
                    (x.set i.toNat
                      (Nd.mk (rd Ty.node x i).1 (rd Ty.node x i).2 (rd Ty.node x i).3 (rd Ty.node x i).4
                        (ByteArray.mk (Array.mk [(122 : UInt8), (122 : UInt8)])) (rd Ty.node x i).6))
                    i).2
                (rd Ty.node
                    (x.set i.toNat
                      (Nd.mk (rd Ty.node x i).1 (rd Ty.node x i).2 (rd Ty.node x i).3 (rd Ty.node x i).4
                        (ByteArray.mk (Array.mk [(122 : UInt8), (122 : UInt8)])) (rd Ty.node x i).6))
                    i).3
                (rd Ty.node
                    (x.set i.toNat
                      (Nd.mk (rd Ty.node x i).1 (rd Ty.node x i).2 (rd Ty.node x i).3 (rd Ty.node x i).4
                        (ByteArray.mk (Array.mk [(122 : UInt8), (122 : UInt8)])) (rd Ty.node x i).6))
                    i).4
                (rd Ty.node
                    (x.set i.toNat
                      (Nd.mk (rd Ty.node x i).1 (rd Ty.node x i).2 (rd Ty.node x i).3 (rd Ty.node x i).4
                        (ByteArray.mk (Array.mk [(122 : UInt8), (122 : UInt8)])) (rd Ty.node x i).6))
                    i).5
                [])),
          Blk.rowb (0 : Nat) Ty.node y])))
  (K (Ex.exit (0 : Nat))
    [AV.row Ty.node a, AV.row Ty.node b, AV.row Ty.edit s, AV.int IntKind.i64 e, AV.own (0 : Nat) (0 : Nat),
      AV.int IntKind.i64 f]
    [Blk.rowb (0 : Nat) Ty.node y])) := by kernel_rfl
theorem vcLawOF (a b : List Nd) (Q : List AV → List Blk → List Blk → Prop) : (funA cxLawO (LL Try.f12 [lsLawO]) Try.f12 [.row .node a, .row .node b] [] [] Q) = (
Br (largeB a) (Q [AV.bool true] [] [])
  (Br (largeB b) (Q [AV.bool true] [] [])
    (Rq (okSc (dpNds a + (1 : Nat)) a b [] [])
      (Rq ((2 : Nat) * (wtNds a + wtEds (scriptS a b [])) ≤ wtMx)
        (Rq ((2 : Nat) * (wtNds a + wtEds (scriptS a b [])) ≤ wtMx)
          (Gv ((applyL a (scriptS a b [])).length ≤ maxSl)
            (Rq
              ((↑(applyL a (scriptS a b [])).length : Int) = (↑(applyL a (scriptS a b [])).length : Int) ∧
                (0 : Int) = (0 : Int) ∧ (applyL a (scriptS a b [])).length ≤ maxSl)
              (Rq ((2 : Nat) * (wtNds a + wtEds (scriptS a b [])) ≤ wtMx)
                (Br (applyE a (scriptS a b []) == (0 : Int))
                  (Br (applyE a (scriptS a b []) == (0 : Int))
                    (Br (applyE a (scriptS a b []) == (0 : Int))
                      (Br (eql eqNd (applyL a (scriptS a b [])) b)
                        (Br (eql eqNd (applyL a (scriptS a b [])) b)
                          (Rq ((scriptS a b []).length * (224 : Nat) ≤ maxSl)
                            (Rq (okR (dpNds a + (1 : Nat)) a b [])
                              (Br (eql eqEd (scriptS a b []) (scriptS a b [])) (Q [AV.bool true] [] [])
                                (Q [AV.bool false] [] []))))
                          (Q [AV.bool false] [] []))
                        (Q [AV.bool false] [] []))
                      (Q [AV.bool false] [] []))
                    (Q [AV.bool false] [] []))
                  (Q [AV.bool false] [] [])))))))))) := by kernel_rfl
end Go.Proofs.Ytmkjjopflncedaa.AX
end
section
namespace Go.Proofs.Ytmkjjopflncedaa.AX
open Go
theorem fun_meetsLC {T : Nat → List AV → List Blk → Option Ans} (tok : TOK (cxT T)) (cold : Nat → List Nat) {f : Nat} {fn : Func} {args : List AV} {hp : List Blk} (ws : List Want) {ans : Ans} (lss : List LS) (hf : Try.prog.funcs[f]? = some fn) (hchk : okFn fn args hp ans lss.length = true)
    (hs : ∀ i x, lss[i]? = some x → SumOK (cxC T cold) (LL fn lss) fn.ntmps (loopAt fn i).1 (loopAt fn i).2 x)
    (h : (∀ p, ans.pre = some p → p) → funA (cxC T cold) (LL fn lss) fn args hp ws (FinQ ans)) : Meets cx0 f args hp ans := by
  simp only [okFn, okFnS, Bool.and_eq_true] at hchk
  obtain ⟨h0, ⟨⟨⟨h1, h2⟩, h3⟩, h4⟩, h5⟩ := hchk
  have e : ans.same = [] := by
    unfold noSame at h0
    split at h0
    · assumption
    · cases h0
  obtain ⟨c, hc⟩ := Option.isSome_iff_exists.1 h1
  have ec : fcode fn = c := by unfold fcode; rw [hc]; rfl
  have tok' : TOK (cxC T cold) := ⟨tok.1, tok.2⟩
  refine meets_any (T := T) (show Meets (cxC T cold) _ _ _ _ from ?_)
  refine fun_meetsS (ws := ws) (cxCOK T cold) tok' hf hc ?_ (by rw [← ec]; exact h2) h3 fun hp => by rw [e]; exact h hp
  rw [← ec]
  refine loopsOK_deep (cxCOK T cold) tok' _ _ h2 fun p hp x hx => ?_
  obtain ⟨i, hi, rfl⟩ := List.getElem_of_mem hp
  have hxi := lookLS_zip (i := i) h5 (by simp [hi]) hx
  have := hs i x hxi
  have el : loopAt fn i = (deepLoops 0 (fcode fn))[i] := by
    unfold loopAt; rw [List.getD_eq_getElem?_getD, List.getElem?_eq_getElem hi]; rfl
  rw [el] at this
  exact this
theorem fun_meets1C {T : Nat → List AV → List Blk → Option Ans} (tok : TOK (cxT T)) (cold : Nat → List Nat) {f : Nat} {fn : Func} {args : List AV} {hp : List Blk} (ws : List Want) {ans : Ans} (x : LS) (hf : Try.prog.funcs[f]? = some fn) (hchk : okFn fn args hp ans 1 = true)
    (hs : SumOK (cxC T cold) (LL fn [x]) fn.ntmps (loopAt fn 0).1 (loopAt fn 0).2 x)
    (h : (∀ p, ans.pre = some p → p) → funA (cxC T cold) (LL fn [x]) fn args hp ws (FinQ ans)) : Meets cx0 f args hp ans :=
  fun_meetsLC tok cold ws [x] hf hchk (fun i y hy => by
    cases i with
    | zero => simp at hy; subst hy; exact hs
    | succ i => simp at hy) h
end Go.Proofs.Ytmkjjopflncedaa.AX
end
section
namespace Go.Proofs.Ytmkjjopflncedaa.AXP
open Go Go.Proofs.Ytmkjjopflncedaa.AX
mutual
theorem cnt_wtNd : ∀ x : Nd, cntNd x ≤ wtNd x
  | ⟨_, _, _, a, _, c⟩ => by rw [cntNd, wtNd]; have := cnt_wt c; omega
theorem cnt_wt : ∀ l : List Nd, cntNds l ≤ wtNds l
  | [] => by rw [cntNds]; exact Nat.zero_le _
  | x :: l => by rw [cntNds, wtNds]; have := cnt_wtNd x; have := cnt_wt l; omega
end
theorem sizeE_wt (x : Ed) : sizeE x ≤ wtEd x := by
  unfold sizeE wtEd
  have := cnt_wtNd x.new
  have := cnt_wtNd x.old
  split
  · omega
  · split <;> omega
theorem sizeS_wt : ∀ s : List Ed, sizeS s ≤ wtEds s
  | [] => Nat.le_refl _
  | x :: s => by rw [sizeS, wtEds]; have := sizeE_wt x; have := sizeS_wt s; omega
theorem sizeE_eq (x : Ed) : sizeE x = 1 + (if (x.what == 1) = true then cntNds x.new.kids else 0) + (if (x.what == 2) = true then cntNds x.old.kids else 0) := by
  unfold sizeE
  by_cases h1 : x.what = 1
  · simp [h1, cntNd_eq]
  · by_cases h2 : x.what = 2
    · simp [h2, cntNd_eq]
    · simp [h1, h2]
end Go.Proofs.Ytmkjjopflncedaa.AXP
namespace Go.Proofs.Ytmkjjopflncedaa.AX
open Go AXP
set_option maxRecDepth 100000
theorem rd_redit {a : List Ed} {i : Nat} (h : i < a.length) : rd .redit a (i : Int) = a[i] := rd_get (t := .redit) h
theorem c8_sum (k : Nat) : SumOK (cxC8 k) (LL Try.f59 [lsC8 k]) Try.f59.ntmps (loopAt Try.f59 0).1 (loopAt Try.f59 0).2 (lsC8 k) := by
  intro vs bs K hs
  unfold lsC8 at hs
  simp only at hs
  split at hs
  case h_2 => exact hs.elim
  rename_i n l m i
  obtain ⟨⟨rfl, rfl, rfl, hk, hm⟩, h⟩ := hs
  rcases (show ∃ w : List Nd, w = l from ⟨_, rfl⟩) with ⟨l, rfl⟩
  have hlen := cnt_len l
  have hl : l.length ≤ maxSl := by omega
  refine sum_rec (σ := Nat) (fun i => [.int .i64 (cntNds (l.take i) : Nat), .row .node l, .int .i64 l.length, .int .i64 (i : Nat)]) (fun _ => []) (fun i => i ≤ l.length) (fun i => l.length - i) ?_ 0 (Nat.zero_le _)
  rintro i hi R hR
  refine Eq.mpr (vcC8B k l _ l.length i _) ⟨fun h1 => ?_, fun h1 => ?_⟩
  · have h1 : (i : Int) < (l.length : Int) := of_decide_eq_true h1
    have hi : i < l.length := by omega
    have e1 := cnt_take hi
    have e2 := cnt_take_le l (i + 1)
    have e3 := cnt_mem hi
    rw [cntNd_eq] at e1 e3
    rw [rd_nd hi, wrap_succ hi hl]
    have w : IntKind.i64.wrap (IntKind.i64.wrap (((cntNds (l.take i) : Nat) : Int) + 1) + (cntNds l[i].kids : Int)) = ((cntNds (l.take (i + 1)) : Nat) : Int) := by
      unfold maxSl at hm
      rw [wrap_id' (i := ((cntNds (l.take i) : Nat) : Int) + 1) (by omega) (by omega), wrap_id' (by omega) (by omega)]
      omega
    rw [w]
    exact Rq.mk ⟨by omega, h1⟩ (Rq.mk ⟨by omega, by omega⟩ (hR (i + 1) hi (by omega)))
  · have h1 : ¬ (i : Int) < (l.length : Int) := of_decide_eq_false h1
    rw [List.take_of_length_le (by omega)]
    exact h
theorem c8_lt : ∀ k, Holds 59 (conC8Lt k)
  | 0 => conP_holds fun l => by
    intro F I w vals hH hv hpre
    exact absurd (hpre _ rfl).1 (Nat.not_lt_zero _)
  | k + 1 => conP_holds fun l => by
    rcases (show ∃ w : List Nd, w = l from ⟨_, rfl⟩) with ⟨l, rfl⟩
    refine fun_meets1 (AllH.tok (.cons (c8_lt k) (by kernel_rfl) .nil)) [] (lsC8 k) (by kernel_rfl) (by kernel_rfl) (c8_sum k) fun hpre => Eq.mpr (vcC8F k l _) ?_
    obtain ⟨h1, h2⟩ : cntNds l < k + 1 ∧ cntNds l ≤ maxSl := hpre _ rfl
    exact ⟨fun _ => Rq.mk ⟨rfl, rfl, rfl, h1, h2⟩ (qfin rfl rfl rfl rfl)⟩
theorem c8_holds : Holds 59 conC8 := conP_holds fun l => by
  refine Meets.of_pre (some (cntNds l < cntNds l + 1 ∧ cntNds l ≤ maxSl)) (.int .i64 (cntNds l)) [] fun h => ⟨c8_lt (cntNds l + 1) _ _ _ rfl, fun p hp => ?_, rfl, rfl⟩
  injection hp with hp; subst hp; exact ⟨Nat.lt_succ_self _, h _ rfl⟩
theorem sz21_sum : SumOK cxSz21 (LL Try.f33 [lsSz21]) Try.f33.ntmps (loopAt Try.f33 0).1 (loopAt Try.f33 0).2 lsSz21 := by
  intro vs bs K hs
  unfold lsSz21 at hs
  simp only at hs
  split at hs
  case h_2 => exact hs.elim
  rename_i n s m i
  obtain ⟨⟨rfl, rfl, rfl, hz, hl⟩, h⟩ := hs
  rcases (show ∃ w : List Ed, w = s from ⟨_, rfl⟩) with ⟨s, rfl⟩
  refine sum_rec (σ := Nat) (fun i => [.int .i64 (sizeS (s.take i) : Nat), .row .redit s, .int .i64 s.length, .int .i64 (i : Nat)]) (fun _ => []) (fun i => i ≤ s.length) (fun i => s.length - i) ?_ 0 (Nat.zero_le _)
  rintro i hi R hR
  refine Eq.mpr (vcSz21B s _ s.length i _) ⟨fun h1 => ?_, fun h1 => ?_⟩
  · have h1 : (i : Int) < (s.length : Int) := of_decide_eq_true h1
    have hi : i < s.length := by omega
    have e1 := size_take hi
    have e2 := size_take_le s (i + 1)
    have e3 := sizeE_eq s[i]
    rw [rd_redit hi, wrap_succ hi hl]
    have go := hR (i + 1) hi (by omega)
    have w1 : IntKind.i64.wrap (((sizeS (s.take i) : Nat) : Int) + 1) = (((sizeS (s.take i) : Nat) : Int) + 1) := by
      unfold maxSl at hz; rw [wrap_id'] <;> omega
    have w2 : ∀ v : Nat, sizeE s[i] = 1 + v → IntKind.i64.wrap (((sizeS (s.take i) : Nat) : Int) + 1 + (v : Int)) = ((sizeS (s.take (i + 1)) : Nat) : Int) ∧ v ≤ maxSl := fun v hv => by
      unfold maxSl at hz ⊢; exact ⟨by rw [wrap_id'] <;> omega, by omega⟩
    rw [w1]
    refine Rq.mk ⟨by omega, h1⟩ ⟨fun h2 => ?_, fun h2 => ⟨fun h3 => ?_, fun h3 => ?_⟩⟩
    · have h3 : ((s[i]).1 == 2) = false := by
        have : (s[i]).1 = 1 := by simpa using h2
        rw [this]; rfl
      rw [if_pos h2, if_neg (by rw [h3]; decide)] at e3
      obtain ⟨w3, w4⟩ := w2 _ e3
      refine Rq.mk w4 ⟨fun h4 => absurd h4 (by rw [h3]; decide), fun _ => ?_⟩
      rw [w3]; exact go
    · rw [if_neg (by rw [h2]; decide), if_pos h3] at e3
      obtain ⟨w3, w4⟩ := w2 _ e3
      refine Rq.mk w4 ?_
      rw [w3]; exact go
    · rw [if_neg (by rw [h2]; decide), if_neg (by rw [h3]; decide)] at e3
      have : ((sizeS (s.take i) : Nat) : Int) + 1 = ((sizeS (s.take (i + 1)) : Nat) : Int) := by omega
      rw [this]; exact go
  · have h1 : ¬ (i : Int) < (s.length : Int) := of_decide_eq_false h1
    rw [List.take_of_length_le (by omega)]
    exact h
theorem sz21_holds : Holds 33 conSz21 := conP_holds fun s => by
  rcases (show ∃ w : List Ed, w = s from ⟨_, rfl⟩) with ⟨s, rfl⟩
  refine fun_meets1 (AllH.tok (.cons c8_holds (by kernel_rfl) .nil)) [] lsSz21 (by kernel_rfl) (by kernel_rfl) sz21_sum fun hpre => Eq.mpr (vcSz21F s _) ?_
  have h : sizeS s ≤ maxSl := hpre _ rfl
  exact ⟨fun hl => Rq.mk ⟨rfl, rfl, rfl, h, hl⟩ (qfin rfl rfl rfl rfl)⟩
theorem sm21_sum : SumOK cxSm21 (LL Try.f30 [lsSm21]) Try.f30.ntmps (loopAt Try.f30 0).1 (loopAt Try.f30 0).2 lsSm21 := by
  intro vs bs K hs
  unfold lsSm21 at hs
  simp only at hs
  split at hs
  case h_2 => exact hs.elim
  rename_i a b c m i
  obtain ⟨⟨rfl, rfl, rfl, hl⟩, h⟩ := hs
  rcases (show ∃ w : List Ed, w = c from ⟨_, rfl⟩) with ⟨a, rfl⟩
  rcases (show ∃ w : List Ed, w = b from ⟨_, rfl⟩) with ⟨b, rfl⟩
  refine sum_rec (σ := Nat) (fun i => [.row .redit a, .row .redit b, .row .redit a, .int .i64 a.length, .int .i64 (i : Nat)]) (fun _ => []) (fun i => i ≤ a.length ∧ beg eqEd a b = beg eqEd (a.drop i) (b.drop i)) (fun i => a.length - i) ?_ 0 ⟨Nat.zero_le _, by rw [List.drop_zero, List.drop_zero]⟩
  rintro i ⟨hi, e⟩ R hR
  refine Eq.mpr (vcSm21B a b a a.length i _) ⟨fun h1 => ?_, fun h1 => ?_⟩
  · have h1 : (i : Int) < (a.length : Int) := of_decide_eq_true h1
    have hia : i < a.length := by omega
    rw [List.drop_eq_getElem_cons hia] at e
    rw [rd_redit hia, wrap_succ hia hl]
    refine Rq.mk ⟨by omega, h1⟩ ⟨fun h2 => ⟨fun _ => ?_⟩, fun h2 => ?_⟩
    · have h2 : (i : Int) ≥ (b.length : Int) := of_decide_eq_true h2
      rw [List.drop_of_length_le (l := b) (by omega)] at e
      exact h.no e
    · have h2 : ¬ (i : Int) ≥ (b.length : Int) := of_decide_eq_false h2
      have hib : i < b.length := by omega
      rw [List.drop_eq_getElem_cons hib] at e
      have e : beg eqEd a b = (eqEd a[i] b[i] && beg eqEd (a.drop (i + 1)) (b.drop (i + 1))) := e
      rw [rd_redit hib]
      have q : (0 : Int) ≤ i ∧ (i : Int) < (b.length : Int) := ⟨by omega, by omega⟩
      have no : eqEd a[i] b[i] = false → rk _ R Ex.ret [.row .redit a, .row .redit b, .bool false] [] := fun hq => h.no (by rw [e, hq]; rfl)
      have hE : eqEd a[i] b[i] = (a[i].what == b[i].what && eql eqI a[i].way b[i].way && eqNd a[i].old b[i].old && eqNd a[i].new b[i].new) := rfl
      rw [nd_eta, nd_eta, nd_eta, nd_eta]
      refine Rq.mk q ⟨fun h3 => ⟨fun _ => no ?_⟩, fun h3 => Rq.mk q ⟨fun h4 => ⟨fun _ => no ?_⟩, fun h4 => Rq.mk q ⟨fun h5 => ⟨fun _ => no ?_⟩, fun h5 => Rq.mk q ⟨fun _ => ⟨fun h6 => no ?_, fun h6 => ?_⟩⟩⟩⟩⟩
      · have h3 : (a[i].what == b[i].what) = false := by simpa using h3
        rw [hE, h3]; rfl
      · have h4 : eql eqI a[i].way b[i].way = false := by simpa using h4
        rw [hE, h4, Bool.and_false]; rfl
      · have h5 : eqNd a[i].old b[i].old = false := by simpa using h5
        rw [hE, h5, Bool.and_false]; rfl
      · have h6 : eqNd a[i].new b[i].new = false := by simpa using h6
        rw [hE, h6, Bool.and_false]
      · have h3 : (a[i].what == b[i].what) = true := by simpa using h3
        have h4 : eql eqI a[i].way b[i].way = true := by simpa using h4
        have h5 : eqNd a[i].old b[i].old = true := by simpa using h5
        have h6 : eqNd a[i].new b[i].new = true := by simpa using h6
        rw [hE, h3, h4, h5, h6] at e
        exact hR (i + 1) ⟨hia, by rw [e]; rfl⟩ (by omega)
  · have h1 : ¬ (i : Int) < (a.length : Int) := of_decide_eq_false h1
    rw [List.drop_of_length_le (l := a) (by omega)] at e
    exact h.yes (by rw [e]; rfl)
theorem sm21_holds : Holds 30 conSm21 := conP_holds fun a b => by
  rcases (show ∃ w : List Ed, w = a from ⟨_, rfl⟩) with ⟨a, rfl⟩
  rcases (show ∃ w : List Ed, w = b from ⟨_, rfl⟩) with ⟨b, rfl⟩
  refine fun_meets1 (AllH.tok (.cons its_holds (by kernel_rfl) (.cons node_holds (by kernel_rfl) .nil))) [] lsSm21 (by kernel_rfl) (by kernel_rfl) sm21_sum fun hpre => Eq.mpr (vcSm21F a b _) ?_
  have key : ((a.length : Int) == (b.length : Int)) = (a.length == b.length) := by
    rw [Bool.eq_iff_iff]; simp only [beq_iff_eq]; exact Int.ofNat_inj
  refine ⟨fun ha => Rq.mk ⟨rfl, rfl, rfl, ha⟩ ⟨fun e => ⟨fun _ => ⟨fun _ => qfin rfl ?_ rfl rfl⟩⟩, fun e => qfin rfl ?_ rfl rfl⟩⟩
  · show [AV.bool _] = [AV.bool _]
    rw [← beg_eql, e, Bool.true_and, key]
  · show [AV.bool _] = [AV.bool _]
    rw [← beg_eql, e, Bool.false_and]
theorem ref21_sum : SumOK cx0 (LL Try.f31 [lsRef21]) Try.f31.ntmps (loopAt Try.f31 0).1 (loopAt Try.f31 0).2 lsRef21 := by
  intro vs bs K hs
  unfold lsRef21 at hs
  simp only at hs
  split at hs
  case h_2 => exact hs.elim
  rename_i s m i l
  obtain ⟨⟨rfl, rfl, h0, hl⟩, h⟩ := hs
  obtain rfl : l = [] := List.eq_nil_of_length_eq_zero h0
  have hm : s.length ≤ maxSl := by omega
  refine sum_for (fun _ => True) (fun i => [.own 0 0, .row .edit s, .int .i64 s.length, .int .i64 i]) (fun i => [.rowb 0 .redit (s.take i)]) s.length (fun i hi _ R hR => ?_) (fun _ R => ?_) trivial
  · refine Eq.mpr (vcRef21B _ s s.length i _) ⟨fun _ => ⟨⟨by omega, by omega⟩, ?_⟩, fun h => lt_of h hi⟩
    rw [rd_ed hi, ed_eta]
    refine ⟨by simp only [List.length_take, List.length_cons, List.length_nil]; omega, ?_⟩
    rw [wrap_succ hi hm]
    have := hR trivial
    rw [← take_snoc hi] at this
    exact this
  · refine Eq.mpr (vcRef21B _ s s.length s.length _) ⟨fun h => not_lt_self h, fun _ => ?_⟩
    rw [List.take_length]; exact h
theorem ref21_holds : Holds 31 conRef21 := conP_holds fun s => by
  refine fun_meets1 tok0 [.row .redit] lsRef21 (by kernel_rfl) (by kernel_rfl) ref21_sum fun hpre => Eq.mpr (vcRef21F s _) ?_
  exact ⟨fun hm => ⟨⟨rfl, rfl, rfl, hpre _ rfl⟩, qfin rfl rfl rfl rfl⟩⟩
theorem okR_large {a b : List Nd} (ha : largeB a = false) (hb : largeB b = false) : okR (dpNds a + 1) a b [] := by
  have wa := large_wt ha
  have wb := large_wt hb
  have da := dp_wt a
  exact ⟨Nat.lt_succ_self _, by omega, by rw [List.length_nil]; omega⟩
theorem len_script {a b : List Nd} (ha : largeB a = false) (hb : largeB b = false) : (scriptS a b []).length * 224 ≤ maxSl := by
  have wa := large_wt ha
  have wb := large_wt hb
  have h2 := scriptF_len (dpNds a + 1) a b []
  have h3 : (scriptS a b []).length ≤ 1500 := by show (scriptF (dpNds a + 1) a b []).length ≤ 1500; omega
  unfold maxSl; omega
theorem scripts_holds : Holds 8 conMakes := conP_holds fun a b => by
  rcases (show ∃ w : List Nd, w = a from ⟨_, rfl⟩) with ⟨a, rfl⟩
  rcases (show ∃ w : List Nd, w = b from ⟨_, rfl⟩) with ⟨b, rfl⟩
  refine fun_meets0C (AllH.tok (.cons lg21_holds (by kernel_rfl) (.cons script_holds (by kernel_rfl) (.cons s21_holds (by kernel_rfl) (.cons ref21_holds (by kernel_rfl) (.cons sm21_holds (by kernel_rfl) (.cons size_holds (by kernel_rfl) (.cons sz21_holds (by kernel_rfl) (.cons word21_holds (by kernel_rfl) .nil))))))))) _ [] (by kernel_rfl) (by kernel_rfl) fun hpre => Eq.mpr (vcLawSF a b _) ?_
  obtain ⟨ra, rb⟩ : rngNds a ∧ rngNds b := hpre _ rfl
  refine ⟨fun _ => qfin rfl rfl rfl rfl, fun h1 => ⟨fun _ => qfin rfl rfl rfl rfl, fun h2 => ?_⟩⟩
  have w2 := wt_script h1 h2
  have w3 := sizeS_wt (scriptS a b [])
  have w4 : sizeS (scriptS a b []) ≤ maxSl := by unfold maxSl; omega
  refine Rq.mk (okSc_large h1 h2 ra rb) (Rq.mk (okR_large h1 h2) (Rq.mk (len_script h1 h2) ?_))
  rw [eql_self eqEd_self, beq_self_eq_true]
  exact ⟨fun _ => Rq.mk w4 (Rq.mk w4 ⟨fun _ => qfin rfl rfl rfl rfl, fun h => (nomatch h)⟩), fun h => (nomatch h)⟩
theorem lawO_sum : SumOK cxLawO (LL Try.f12 [lsLawO]) Try.f12.ntmps (loopAt Try.f12 0).1 (loopAt Try.f12 0).2 lsLawO := by
  intro vs bs K hs
  unfold lsLawO at hs
  simp only at hs
  split at hs
  case h_2 => exact hs.elim
  rename_i a b s e f m i x y
  obtain ⟨⟨rfl, rfl, hl⟩, h⟩ := hs
  rcases (show ∃ w : List Nd, w = x from ⟨_, rfl⟩) with ⟨x, rfl⟩
  refine sum_rec (σ := Nat × List Nd) (fun q => [.row .node a, .row .node b, .row .edit s, .own 0 0, .int .i64 e, .own 1 0, .int .i64 f, .int .i64 x.length, .int .i64 (q.1 : Nat)]) (fun q => [.rowb 0 .node q.2, .rowb 0 .node y]) (fun q => q.1 ≤ x.length ∧ q.2.length = x.length) (fun q => x.length - q.1) ?_ (0, x) ⟨Nat.zero_le _, rfl⟩
  rintro ⟨i, z⟩ ⟨hi, hz⟩ R hR
  dsimp only at hi hz hR ⊢
  refine Eq.mpr (vcLawOB a b z y s e f x.length i _) ⟨fun h1 => ?_, fun h1 => h⟩
  have h1 : (i : Int) < (x.length : Int) := of_decide_eq_true h1
  have hia : i < x.length := by omega
  rw [wrap_succ hia hl]
  refine Rq.mk ⟨by omega, by omega⟩ (Rq.mk ⟨by omega, by rw [List.length_set]; omega⟩ ?_)
  exact hR (i + 1, _) ⟨hia, by rw [List.length_set, List.length_set]; exact hz⟩ (by dsimp only; omega)
theorem own_holds : Holds 12 conMakes := conP_holds fun a b => by
  rcases (show ∃ w : List Nd, w = a from ⟨_, rfl⟩) with ⟨a, rfl⟩
  rcases (show ∃ w : List Nd, w = b from ⟨_, rfl⟩) with ⟨b, rfl⟩
  refine fun_meets1C (AllH.tok (.cons lg21_holds (by kernel_rfl) (.cons script_holds (by kernel_rfl) (.cons apply_holds (by kernel_rfl) (.cons nodes_holds (by kernel_rfl) (.cons s21_holds (by kernel_rfl) (.cons ref21_holds (by kernel_rfl) (.cons sm21_holds (by kernel_rfl) (.cons word21_holds (by kernel_rfl) .nil))))))))) _ [] lsLawO (by kernel_rfl) (by kernel_rfl) lawO_sum fun hpre => Eq.mpr (vcLawOF a b _) ?_
  obtain ⟨ra, rb⟩ : rngNds a ∧ rngNds b := hpre _ rfl
  refine ⟨fun _ => qfin rfl rfl rfl rfl, fun h1 => ⟨fun _ => qfin rfl rfl rfl rfl, fun h2 => ?_⟩⟩
  have w1 := large_wt h1
  have w2 := wt_script h1 h2
  have w3 : 2 * (wtNds a + wtEds (scriptS a b [])) ≤ wtMx := by unfold wtMx; omega
  have e := script_makes a b
  have e1 : applyE a (scriptS a b []) = 0 := (congrArg errX e).trans rfl
  have e2 : applyL a (scriptS a b []) = b := (congrArg okX e).trans rfl
  refine Rq.mk (okSc_large h1 h2 ra rb) (Rq.mk w3 (Rq.mk w3 ⟨fun hm => Rq.mk ⟨rfl, rfl, hm⟩ (Rq.mk w3 ?_)⟩))
  rw [e1, e2, eql_self eqNd_self, eql_self eqEd_self]
  exact ⟨fun _ => ⟨fun _ => ⟨fun _ => ⟨fun _ => ⟨fun _ => Rq.mk (len_script h1 h2) (Rq.mk (okR_large h1 h2) ⟨fun _ => qfin rfl rfl rfl rfl, fun h => (nomatch h)⟩), fun h => (nomatch h)⟩, fun h => (nomatch h)⟩, fun h => (nomatch h)⟩, fun h => (nomatch h)⟩, fun h => (nomatch h)⟩
end Go.Proofs.Ytmkjjopflncedaa.AX
end
section
namespace Go.Proofs.Ytmkjjopflncedaa.AX
open Go Go.RowKit AXP
theorem list_of {α : Type} {Q : Nat → α → Prop} : ∀ n : Nat, (∀ i, i < n → ∃ x, Q i x) → ∃ l : List α, l.length = n ∧ ∀ i x, l[i]? = some x → Q i x
  | 0, _ => ⟨[], rfl, fun i x h => by simp at h⟩
  | n + 1, h => by
    obtain ⟨l, hl, hq⟩ := list_of n fun i hi => h i (by omega)
    obtain ⟨x, hx⟩ := h n (by omega)
    refine ⟨l ++ [x], by rw [List.length_append, hl]; rfl, fun i y hy => ?_⟩
    rcases Nat.lt_or_ge i n with z | z
    · rw [List.getElem?_append_left (by omega)] at hy; exact hq i y hy
    · rw [List.getElem?_append_right (by omega), hl] at hy
      have : i - n = 0 := by
        rcases Nat.eq_zero_or_pos (i - n) with w | w
        · exact w
        · rw [List.getElem?_eq_none (by simp only [List.length_cons, List.length_nil]; omega)] at hy; cases hy
      rw [this] at hy
      obtain rfl : x = y := by simpa using hy
      obtain rfl : i = n := by omega
      exact hx
theorem mapM_spec {α : Type} (f : Nat → Option α) : ∀ (l : List Nat) (cs : List α), l.mapM f = some cs → cs.length = l.length ∧ ∀ (j : Nat) (u : α), cs[j]? = some u → ∃ i, l[j]? = some i ∧ f i = some u
  | [], cs, h => by simp at h; subst h; exact ⟨rfl, fun j u h => by simp at h⟩
  | i :: l, cs, h => by
    simp only [List.mapM_cons, Option.bind_eq_bind, Option.bind_eq_some_iff, Option.pure_def, Option.some.injEq] at h
    obtain ⟨x, hx, ys, hy, rfl⟩ := h
    obtain ⟨h1, h2⟩ := mapM_spec f l ys hy
    refine ⟨by simp [h1], fun j u hu => ?_⟩
    cases j with
    | zero => simp at hu; subst hu; exact ⟨i, rfl, hx⟩
    | succ j => simpa using h2 j u (by simpa using hu)
theorem cells_spec {w : World} {base n : Nat} {a : Addr} {cs : List Value} (h : w.cells? base a n = some cs) : cs.length = n ∧ ∀ j u, cs[j]? = some u → w.cell? (a.add j) = some u := by
  unfold World.cells? at h
  split at h
  · obtain ⟨h1, h2⟩ := mapM_spec _ _ _ h
    refine ⟨by simpa using h1, fun j u hu => ?_⟩
    obtain ⟨i, hi, hf⟩ := h2 j u hu
    obtain ⟨hlt, e⟩ := List.getElem?_eq_some_iff.1 hi
    simp at e
    subst e
    exact hf
  · cases h
theorem spot_of {w : World} {a : Addr} {v : Value} (h : w.cell? a = some v) : a.spot = none := by
  unfold World.cell? at h
  split at h
  · split at h
    · cases h
    · rename_i hs; simpa using hs
  · cases h
section
variable {H : Type} {enc : TypeId × Value → H} {w : World} {base : Nat} {spare : Nat → Bool} {held : Bool} {O : Nat → Prop} {I : Im}
def Small (t : TypeId) (d : DataW H) : Prop := ∀ n ∈ d.weights Try.prog t, n ≤ reachBytes
theorem small_all {e : TypeId} : ∀ {ds : List (DataW H)} {i : Nat} {d : DataW H}, ds[i]? = some d → ∀ n ∈ d.weights Try.prog e, n ∈ DataW.weightsAll Try.prog e ds
  | [], _, _, h, _, _ => by simp at h
  | x :: ds, 0, d, h, n, hn => by simp at h; subst h; rw [DataW.weightsAll]; exact List.mem_append.2 (.inl hn)
  | x :: ds, i + 1, d, h, n, hn => by rw [DataW.weightsAll]; exact List.mem_append.2 (.inr (small_all (by simpa using h) n hn))
theorem open_row {t : Ty} (Pd : den t → Prop) {e sl : TypeId} (hu : Try.prog.underlying sl = some (.slice e)) (hc : Try.prog.cellsOf e = width t) (hb : 1 ≤ Try.prog.bytesOf e) (hO : ∀ b, ¬ O b)
    {m : Nat} {cs : List Value} {y : DataW H × List MemPlace} (h : DataW.trod enc Try.prog w base spare held m sl cs = some y) (hs : Small sl y.1)
    (hel : ∀ (n : Nat) (c : List Value) (z : DataW H × List MemPlace), n < m → c.length = width t → DataW.trod enc Try.prog w base spare held n e c = some z → Small e z.1 → ∃ x : den t, All2 (LeafR w O I) c (leaves t x) ∧ Pd x) :
    ∃ (v : Value) (l : List (den t)), cs = [v] ∧ LeafR w O I v (.row t l) ∧ ∀ x ∈ l, Pd x := by
  rcases DataW.trod_slice hu h with ⟨rfl, _⟩ | ⟨a, len, cap, elems, rest, n, rfl, rfl, rfl, _, hl, _, hlen, hels, _, _⟩
  · exact ⟨_, [], rfl, .row0 t, fun x hx => nomatch hx⟩
  · have hW := width_pos t
    rw [hc] at hels
    have hsz : len ≤ maxSl := by
      have h1 := hs ((((elems.map (·.1)).length + (rest.map (·.1)).length) * Try.prog.bytesOf e)) (by simp only [DataW.weights, hu]; exact .head _)
      simp only [List.length_map] at h1
      have : len ≤ (elems.length + rest.length) * Try.prog.bytesOf e := by
        rw [hlen]; exact Nat.le_trans (Nat.le_add_right _ _) (Nat.le_mul_of_pos_right _ hb)
      unfold reachBytes at h1
      unfold maxSl
      omega
    obtain ⟨l, hll, hq⟩ := list_of (Q := fun i (x : den t) => ∃ c : List Value, c.length = width t ∧ (All2 (LeafR w O I) c (leaves t x) ∧ Pd x) ∧ ∀ j u, c[j]? = some u → w.cell? (a.add (i * width t + j)) = some u) len fun i hi => by
      have h1 := hels i hi
      obtain ⟨z, hz⟩ : ∃ z, elems[i]? = some z := ⟨_, List.getElem?_eq_getElem (by omega)⟩
      rw [hz] at h1
      obtain ⟨c, hcc, ht⟩ := Option.bind_eq_some_iff.1 h1
      obtain ⟨g1, g2⟩ := cells_spec hcc
      have hsz' : Small e z.1 := fun k hk => hs k (by
        simp only [DataW.weights, hu]
        exact .tail _ (List.mem_append.2 (.inl (small_all (i := i) (by rw [List.getElem?_map, hz]; rfl) k hk))))
      obtain ⟨x, hx⟩ := hel n c z (Nat.lt_succ_self _) g1 ht hsz'
      refine ⟨x, c, g1, hx, fun j u hu' => ?_⟩
      have := g2 j u hu'
      unfold Addr.add at this ⊢
      by_cases hj : j = 0
      · subst hj; simpa using this
      · rw [if_neg hj] at this
        rw [if_neg (by omega)]
        split at this
        · rename_i h0; rw [h0, Nat.zero_add]; exact this
        · simpa [Nat.add_assoc] using this
    refine ⟨_, l, rfl, ?_, fun x hx => by obtain ⟨i, hi, rfl⟩ := List.getElem_of_mem hx; obtain ⟨_, _, k2, _⟩ := hq i l[i] (List.getElem?_eq_getElem hi); exact k2.2⟩
    rcases Nat.eq_zero_or_pos len with h0 | h0
    · have : l = [] := List.eq_nil_of_length_eq_zero (by omega)
      subst this
      subst h0
      exact .rowz a cap t
    · have hcell : ∀ j, j < len * width t → ∃ u, w.cell? (a.add j) = some u ∧ ∀ x, (cellsOf t l)[j]? = some x → LeafR w O I u x := fun j hj => by
        have hd : j / width t < l.length := by rw [hll]; exact Nat.div_lt_of_lt_mul (by rw [Nat.mul_comm]; exact hj)
        obtain ⟨c, k1, ⟨k2, _⟩, k3⟩ := hq (j / width t) l[j / width t] (List.getElem?_eq_getElem hd)
        have hm : j % width t < c.length := by rw [k1]; exact Nat.mod_lt _ hW
        have h3 := k3 (j % width t) c[j % width t] (List.getElem?_eq_getElem hm)
        have hj' : j / width t * width t + j % width t = j := by rw [Nat.mul_comm]; exact Nat.div_add_mod j (width t)
        rw [hj'] at h3
        refine ⟨_, h3, fun x hx => ?_⟩
        rw [cellsOf_get hd] at hx
        obtain ⟨y', hy', hr⟩ := k2.get' (List.getElem?_eq_getElem hm)
        rw [hx] at hy'; injection hy' with hy'; subst hy'; exact hr
      obtain ⟨b, off, sp⟩ := a
      obtain ⟨u0, hu0, _⟩ := hcell 0 (Nat.mul_pos h0 hW)
      have hsp : sp = none := spot_of hu0
      subst hsp
      have key := LeafR.row (w := w) (O := O) (I := I) b off cap t l ((List.range (len * width t)).map fun j => (w.cell? ⟨b, off + j, none⟩).getD (.bool false)) (fun _ => hO b) (by omega) (by omega) (fun j u hu' => ?_) (by simp only [List.length_map, List.length_range]; rw [cellsOf_length, hll]) (fun j u x hu' hx => ?_)
      · rw [hll] at key; exact key
      · simp only [List.getElem?_map, Option.map_eq_some_iff] at hu'
        obtain ⟨k, hk, rfl⟩ := hu'
        obtain ⟨hlt, e'⟩ := List.getElem?_eq_some_iff.1 hk
        simp at e' hlt
        subst e'
        obtain ⟨u1, hu1, _⟩ := hcell j hlt
        have e2 : (⟨b, off, none⟩ : Addr).add j = ⟨b, off + j, none⟩ := by unfold Addr.add; split <;> simp_all
        rw [e2] at hu1
        rw [hu1]; rfl
      · simp only [List.getElem?_map, Option.map_eq_some_iff] at hu'
        obtain ⟨k, hk, rfl⟩ := hu'
        obtain ⟨hlt, e'⟩ := List.getElem?_eq_some_iff.1 hk
        simp at e' hlt
        subst e'
        obtain ⟨u1, hu1, hr⟩ := hcell j hlt
        have e2 : (⟨b, off, none⟩ : Addr).add j = ⟨b, off + j, none⟩ := by unfold Addr.add; split <;> simp_all
        rw [e2] at hu1
        rw [hu1]
        exact hr x hx
/-- A field's reading. -/
theorem field_of {t : TypeId} {fs : Array Field} (hu : Try.prog.underlying t = some (.struct fs)) {m : Nat} {cs : List Value} {y : DataW H × List MemPlace} (h : DataW.trod enc Try.prog w base spare held m t cs = some y) (hs : Small t y.1) (i : Nat) (f : Field) (hf : fs[i]? = some f) :
    ∃ (n : Nat) (z : DataW H × List MemPlace), n < m ∧ DataW.trod enc Try.prog w base spare held n f.type ((cs.drop f.offset).take (Try.prog.cellsOf f.type)) = some z ∧ Small f.type z.1 := by
  obtain ⟨xs, n, rfl, rfl, _, hlen, hff⟩ := DataW.trod_struct hu h
  have hlt : i < xs.length := by rw [hlen]; exact (Array.getElem?_eq_some_iff.1 hf).1
  refine ⟨n, xs[i], Nat.lt_succ_self _, by rw [hff i f hf, List.getElem?_eq_getElem hlt], fun k hk => hs k ?_⟩
  simp only [DataW.weights, hu]
  refine DataW.weights_mem_each (j := i) (t := f.type) (d := xs[i].1) ?_ ?_ k hk
  · rw [List.getElem?_map, Array.getElem?_toList, hf]; rfl
  · rw [List.getElem?_map, List.getElem?_eq_getElem hlt]; rfl
theorem struct_len {t : TypeId} {fs : Array Field} (hu : Try.prog.underlying t = some (.struct fs)) {m : Nat} {cs : List Value} {y : DataW H × List MemPlace} (h : DataW.trod enc Try.prog w base spare held m t cs = some y) : cs.length = Try.prog.cellsOf t := by
  obtain ⟨_, _, _, _, hl, _, _⟩ := DataW.trod_struct hu h
  exact hl
theorem wf_inI {n : Int} (h : (Lit.int .i64 n).wf = true) : inI n := by
  have h : (decide (IntKind.i64.min ≤ n) && decide (n ≤ IntKind.i64.max)) = true := h
  rw [Bool.and_eq_true, decide_eq_true_eq, decide_eq_true_eq, show IntKind.i64.min = -9223372036854775808 by decide, show IntKind.i64.max = 9223372036854775807 by decide] at h
  exact ⟨h.1, by omega⟩
theorem open_int1 {m : Nat} {cs : List Value} {y : DataW H × List MemPlace} (h : DataW.trod enc Try.prog w base spare held m 3 cs = some y) : ∃ n, cs = [.int .i64 n] ∧ inI n := by
  obtain ⟨n, e, _, hw⟩ := DataW.trod_int Try.underlying3 h
  exact ⟨n, e, wf_inI hw⟩
theorem open_str1 {m : Nat} {cs : List Value} {y : DataW H × List MemPlace} (h : DataW.trod enc Try.prog w base spare held m 9 cs = some y) (hs : Small 9 y.1) : ∃ s : ByteArray, cs = [.string s] ∧ s.size ≤ maxSl := by
  obtain ⟨s, e, rfl, _⟩ := DataW.trod_string Try.underlying9 h
  refine ⟨s, e, ?_⟩
  have := hs s.data.toList.length (by simp [DataW.weights])
  rw [Array.length_toList] at this
  have h2 : s.size ≤ reachBytes := this
  unfold reachBytes at h2
  unfold maxSl
  omega
theorem cells_int : Try.prog.cellsOf 3 = 1 := by kernel_rfl
theorem cells_str : Try.prog.cellsOf 9 = 1 := by kernel_rfl
theorem cells_ints : Try.prog.cellsOf 58 = 1 := by kernel_rfl
theorem cells_ats : Try.prog.cellsOf 51 = 1 := by kernel_rfl
theorem cells_nds : Try.prog.cellsOf 22 = 1 := by kernel_rfl
theorem cells_at : Try.prog.cellsOf 95 = 2 := by kernel_rfl
theorem cells_nd : Try.prog.cellsOf 53 = 6 := by kernel_rfl
theorem cells_ed : Try.prog.cellsOf 60 = 14 := by kernel_rfl
theorem open_ints (hO : ∀ b, ¬ O b) {m : Nat} {cs : List Value} {y : DataW H × List MemPlace} (h : DataW.trod enc Try.prog w base spare held m 58 cs = some y) (hs : Small 58 y.1) : ∃ (v : Value) (l : List Int), cs = [v] ∧ LeafR w O I v (.row .int l) ∧ ∀ n ∈ l, inI n :=
  open_row (t := .int) inI Try.underlying58 cells_int (Nat.le_of_ble_eq_true (by kernel_rfl)) hO h hs fun n c z _ _ hz _ => by
    obtain ⟨k, rfl, hk⟩ := open_int1 hz
    exact ⟨k, .cons (.int _ _) .nil, hk⟩
set_option maxRecDepth 100000
theorem open_ats (hO : ∀ b, ¬ O b) {m : Nat} {cs : List Value} {y : DataW H × List MemPlace} (h : DataW.trod enc Try.prog w base spare held m 51 cs = some y) (hs : Small 51 y.1) : ∃ (v : Value) (l : List At), cs = [v] ∧ LeafR w O I v (.row .attr l) ∧ ∀ x ∈ l, True :=
  open_row (t := .attr) (fun _ => True) Try.underlying51 cells_at (Nat.le_of_ble_eq_true (by kernel_rfl)) hO h hs fun n c z _ hl hz hsz => by
    obtain ⟨_, z0, _, g0, s0⟩ := field_of Try.underlying95 hz hsz 0 _ rfl
    obtain ⟨_, z1, _, g1, s1⟩ := field_of Try.underlying95 hz hsz 1 _ rfl
    obtain ⟨x0, e0, b0⟩ := open_str1 g0 s0
    obtain ⟨x1, e1, b1⟩ := open_str1 g1 s1
    match c, hl with
    | [c0, c1], _ =>
      simp [cells_str] at e0 e1
      subst e0 e1
      exact ⟨⟨x0, x1⟩, .cons (.str _ b0) (.cons (.str _ b1) .nil), trivial⟩
theorem open_nd (hO : ∀ b, ¬ O b) : ∀ (m : Nat) {cs : List Value} {y : DataW H × List MemPlace}, DataW.trod enc Try.prog w base spare held m 53 cs = some y → Small 53 y.1 → ∃ x : Nd, All2 (LeafR w O I) cs (nodeL x) ∧ rngNd x := by
  intro m
  induction m using Nat.strongRecOn with
  | ind m ih =>
    intro cs y h hs
    obtain ⟨_, z0, _, g0, s0⟩ := field_of Try.underlying53 h hs 0 _ rfl
    obtain ⟨_, z1, _, g1, s1⟩ := field_of Try.underlying53 h hs 1 _ rfl
    obtain ⟨_, z2, _, g2, s2⟩ := field_of Try.underlying53 h hs 2 _ rfl
    obtain ⟨_, z3, _, g3, s3⟩ := field_of Try.underlying53 h hs 3 _ rfl
    obtain ⟨_, z4, _, g4, s4⟩ := field_of Try.underlying53 h hs 4 _ rfl
    obtain ⟨n5, z5, l5, g5, s5⟩ := field_of Try.underlying53 h hs 5 _ rfl
    have hlen := struct_len Try.underlying53 h
    rw [cells_nd] at hlen
    obtain ⟨x0, e0, i0⟩ := open_int1 g0
    obtain ⟨x1, e1, i1⟩ := open_int1 g1
    obtain ⟨x2, e2, b2⟩ := open_str1 g2 s2
    obtain ⟨v3, x3, e3, r3, _⟩ := open_ats (I := I) hO g3 s3
    obtain ⟨x4, e4, b4⟩ := open_str1 g4 s4
    obtain ⟨v5, x5, e5, r5, i5⟩ := open_row (t := .node) (I := I) rngNd Try.underlying22 cells_nd (Nat.le_of_ble_eq_true (by kernel_rfl)) hO g5 s5 fun n c z hn _ hz hsz => ih n (by omega) hz hsz
    match cs, hlen with
    | [c0, c1, c2, c3, c4, c5], _ =>
      simp [cells_int, cells_str, cells_ats, cells_nds] at e0 e1 e2 e3 e4 e5
      subst e0 e1 e2 e3 e4 e5
      exact ⟨⟨x0, x1, x2, x3, x4, x5⟩, .cons (.int _ _) (.cons (.int _ _) (.cons (.str _ b2) (.cons r3 (.cons (.str _ b4) (.cons r5 .nil))))), by rw [rngNd]; exact ⟨i0, i1, rngNds_of i5⟩⟩
theorem open_nds (hO : ∀ b, ¬ O b) {m : Nat} {cs : List Value} {y : DataW H × List MemPlace} (h : DataW.trod enc Try.prog w base spare held m 22 cs = some y) (hs : Small 22 y.1) : ∃ (v : Value) (l : List Nd), cs = [v] ∧ LeafR w O I v (.row .node l) ∧ rngNds l := by
  obtain ⟨v, l, e, r, i⟩ := open_row (t := .node) (I := I) rngNd Try.underlying22 cells_nd (Nat.le_of_ble_eq_true (by kernel_rfl)) hO h hs fun n c z _ _ hz hsz => open_nd hO n hz hsz
  exact ⟨v, l, e, r, rngNds_of i⟩
theorem open_eds (hO : ∀ b, ¬ O b) {m : Nat} {cs : List Value} {y : DataW H × List MemPlace} (h : DataW.trod enc Try.prog w base spare held m 23 cs = some y) (hs : Small 23 y.1) : ∃ (v : Value) (l : List Ed), cs = [v] ∧ LeafR w O I v (.row .edit l) ∧ rngEds l :=
  open_row (t := .edit) rngEd Try.underlying23 cells_ed (Nat.le_of_ble_eq_true (by kernel_rfl)) hO h hs fun n c z _ hl hz hsz => by
    obtain ⟨_, z0, _, g0, s0⟩ := field_of Try.underlying60 hz hsz 0 _ rfl
    obtain ⟨_, z1, _, g1, s1⟩ := field_of Try.underlying60 hz hsz 1 _ rfl
    obtain ⟨_, z2, _, g2, s2⟩ := field_of Try.underlying60 hz hsz 2 _ rfl
    obtain ⟨_, z3, _, g3, s3⟩ := field_of Try.underlying60 hz hsz 3 _ rfl
    obtain ⟨x0, e0, i0⟩ := open_int1 g0
    obtain ⟨v1, x1, e1, r1, i1⟩ := open_ints (I := I) hO g1 s1
    obtain ⟨x2, r2, i2⟩ := open_nd (I := I) hO _ g2 s2
    obtain ⟨x3, r3, i3⟩ := open_nd (I := I) hO _ g3 s3
    match c, hl with
    | [c0, c1, c2, c3, c4, c5, c6, c7, c8, c9, c10, c11, c12, c13], _ =>
      simp [cells_int, cells_ints] at e0 e1
      subst e0 e1
      simp [cells_nd] at r2 r3
      refine ⟨⟨x0, x1, x2, x3⟩, .cons (.int _ _) (.cons r1 ?_), i0, i1, i2, i3⟩
      exact r2.append r3
end
/-- A slice that came in. -/
theorem opened {H : Type} {enc : TypeId × Value → H} {w : World} {spare : Nat → Bool} {held : Bool} {t : TypeId} {v : Value} {d : DataW H} {p : List MemPlace} (h : DataW.Trod enc Try.prog w 0 spare held t v d p) : ∃ m, DataW.trod enc Try.prog w 0 spare held m t v.cells.toList = some (d, p) := h
end Go.Proofs.Ytmkjjopflncedaa.AX
end
