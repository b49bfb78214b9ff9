/- What the code of this statement does, over values that stand for data: an executor of the model's code, that it is sound, and contracts of functions: part 4. No condition is added to the statement. -/
import Derived.Test.YtnhipiedjekkpaaGreatDoorMD3
set_option linter.unusedVariables false
set_option linter.unusedSimpArgs false
section
namespace Go.Proofs.YtnhipiedjekkpaaGreatDoor.AXP
open Go Go.Proofs.YtnhipiedjekkpaaGreatDoor.AX
mutual
def eaNd {σ : Type} (g : Nd → Int → σ → σ) (d : Int) : Nd → σ → σ
  | ⟨k, s, m, a, t, c⟩, x => eaNds g (d + 1) c (g ⟨k, s, m, a, t, c⟩ d x)
def eaNds {σ : Type} (g : Nd → Int → σ → σ) (d : Int) : List Nd → σ → σ
  | [], x => x
  | n :: l, x => eaNds g d l (eaNd g d n x)
end
mutual
def okNd {σ : Type} (p : Nd → Int → σ → Prop) (g : Nd → Int → σ → σ) (d : Int) : Nd → σ → Prop
  | ⟨k, s, m, a, t, c⟩, x => p ⟨k, s, m, a, t, c⟩ d x ∧ okNds p g (d + 1) c (g ⟨k, s, m, a, t, c⟩ d x)
def okNds {σ : Type} (p : Nd → Int → σ → Prop) (g : Nd → Int → σ → σ) (d : Int) : List Nd → σ → Prop
  | [], _ => True
  | n :: l, x => okNd p g d n x ∧ okNds p g d l (eaNd g d n x)
end
def gC (_ : Nd) (_ x : Int) : Int := x + 1
def okC (_ : Nd) (_ x : Int) : Prop := 0 ≤ x ∧ x < maxSl
def gD (n : Nd) (d x : Int) : Int := if leafB n = true then x else if d > x then d else x
def okD (_ : Nd) (_ _ : Int) : Prop := True
def gK (n : Nd) (_ : Int) (x : Bool) : Bool := x && rightB n && !joinB n.kids
def okK (n : Nd) (_ : Int) (_ : Bool) : Prop := oBnd n.attrs
def bigA (a : At) : Bool := decide ((a.value.size : Int) > 65536)
def ixA : Nat → List At → Int
  | _, [] => -1
  | i, a :: l => if bigA a = true then i else ixA (i + 1) l
def longN (n : Nd) : Bool := decide ((n.text.size : Int) > 65536) || n.attrs.any bigA
def gL (n : Nd) (_ : Int) (x : Bool) : Bool := x || longN n
def okL (_ : Nd) (_ : Int) (_ : Bool) : Prop := True
mutual
def lonNd : Nd → Bool
  | ⟨k, s, m, a, t, c⟩ => longN ⟨k, s, m, a, t, c⟩ || lonNds c
def lonNds : List Nd → Bool
  | [] => false
  | n :: l => lonNd n || lonNds l
end
def ndFit (m t : ByteArray) (a : List At) : Prop := m.size ≤ 65536 ∧ t.size ≤ 65536 ∧ a.length ≤ 200 ∧ ∀ x ∈ a, x.name.size ≤ 65536 ∧ x.value.size ≤ 65536
mutual
def bndNd : Nd → Prop
  | ⟨_, _, m, a, t, c⟩ => ndFit m t a ∧ bndNds c
def bndNds : List Nd → Prop
  | [] => True
  | n :: l => bndNd n ∧ bndNds l
end
def fineNds (l : List Nd) : Prop := cntNds l < 1000000 ∧ bndNds l
end Go.Proofs.YtnhipiedjekkpaaGreatDoor.AXP
namespace Go.Proofs.YtnhipiedjekkpaaGreatDoor.AX
open Go AXP
def conLeaf : Con := conP [.agg .node] fun (n : Nd) => { res := .bool (leafB n) }
noncomputable def cxRig : Cx := cxT (tabLook [(127, conLeaf), (128, conGoodP), (129, conOpn)])
def conRig : Con := conP [.agg .node] fun (n : Nd) => { pre := some (oBnd n.attrs), res := .bool (rightB n) }
def lsJoi : LS where
  keep := [(0, .as), (3, .as)]
  left := [(2, .as)]
  sum := fun vs bs K => match vs, bs with
    | [.row .node l, .int .i64 i], [] => Rq (i = 1) (Br (joinB l) (K .ret [.bool true] []) (K (.exit 0) [.any] []))
    | _, _ => False
def conJoi : Con := conP [.row .node] fun (l : List Nd) => { res := .bool (joinB l) }
def conBig : Con := conP [.agg .attr] fun (a : At) => { res := .bool (bigA a) }
noncomputable def cxIdx : Cx := cxT (tabLook [(131, conBig)])
def lsIdx : LS where
  keep := [(0, .as), (1, .as), (7, .as), (8, .as)]
  left := [(4, .as)]
  sum := fun vs bs K => match vs, bs with
    | [.row .attr l, .fn f [], .int .i64 m, .int .i64 i], [] => Rq (f = 131 ∧ m = l.length ∧ i = 0 ∧ l.length ≤ maxSl) (Br (l.any bigA) (K .ret [.int .i64 (ixA 0 l)] []) (K (.exit 0) [.any] []))
    | _, _ => False
def conIdx : Con := conP [.row .attr, .fn 131] fun (l : List At) _ => { res := .int .i64 (ixA 0 l) }
noncomputable def cxCF : Cx := cxT (tabLook [(122, conIdx)])
def conCF : Con := conP [.row .attr, .fn 131] fun (l : List At) _ => { res := .bool (l.any bigA) }
noncomputable def cxD1 : Cx := cxT (tabLook [(127, conLeaf)])
noncomputable def cxK1 : Cx := cxT (tabLook [(118, conRig), (115, conJoi)])
noncomputable def cxL1 : Cx := cxT (tabLook [(100, conCF)])
def conC1 : Con := fun args hp => match args, hp with
  | [.agg c, .int .i64 d, .ptr 0 0], [.box [.int .i64 x]] => (toNd c).bind fun n => some { pre := some (okC n d x), res := .tup [], hp := [.box [.int .i64 (gC n d x)]] }
  | _, _ => none
noncomputable def conECLt (k : Nat) : Con := fun args hp => match args, hp with
  | [x, .int .i64 d, .fn f [.ptr 0 0]], [.box [.int .i64 s]] => match Nat.beq f 125 with
    | true => (rowOf .node x).bind fun (l : List Nd) => some { pre := some (cntNds l < k ∧ 0 ≤ d ∧ d + cntNds l ≤ maxSl ∧ okNds okC gC d l s), res := .tup [], hp := [.box [.int .i64 (eaNds gC d l s)]] }
    | false => none
  | _, _ => none
noncomputable def cxEC (k : Nat) : Cx := cxT (tabLook [(125, conC1), (116, conECLt k)])
def lsEC (k : Nat) : LS where
  keep := [(1, .as), (2, .as), (8, .as), (9, .as), (10, .as)]
  left := [(2, .as)]
  sum := fun vs bs K => match vs, bs with
    | [.int .i64 d, .fn f [.ptr 0 0], .row .node l, .int .i64 m, .int .i64 i], [.box [.int .i64 s]] => Rq (f = 125 ∧ m = l.length ∧ i = 0 ∧ cntNds l < k + 1 ∧ 0 ≤ d ∧ d + cntNds l ≤ maxSl ∧ okNds okC gC d l s) (K (.exit 0) [.fn f [.ptr 0 0]] [.box [.int .i64 (eaNds gC d l s)]])
    | _, _ => False
noncomputable def conEC : Con := fun args hp => match args, hp with
  | [x, .int .i64 d, .fn f [.ptr 0 0]], [.box [.int .i64 s]] => match Nat.beq f 125 with
    | true => (rowOf .node x).bind fun (l : List Nd) => some { pre := some (0 ≤ d ∧ d + cntNds l ≤ maxSl ∧ okNds okC gC d l s), res := .tup [], hp := [.box [.int .i64 (eaNds gC d l s)]] }
    | false => none
  | _, _ => none
def conD1 : Con := fun args hp => match args, hp with
  | [.agg c, .int .i64 d, .ptr 0 0], [.box [.int .i64 x]] => (toNd c).bind fun n => some { pre := some (okD n d x), res := .tup [], hp := [.box [.int .i64 (gD n d x)]] }
  | _, _ => none
noncomputable def conEDLt (k : Nat) : Con := fun args hp => match args, hp with
  | [x, .int .i64 d, .fn f [.ptr 0 0]], [.box [.int .i64 s]] => match Nat.beq f 126 with
    | true => (rowOf .node x).bind fun (l : List Nd) => some { pre := some (cntNds l < k ∧ 0 ≤ d ∧ d + cntNds l ≤ maxSl ∧ okNds okD gD d l s), res := .tup [], hp := [.box [.int .i64 (eaNds gD d l s)]] }
    | false => none
  | _, _ => none
noncomputable def cxED (k : Nat) : Cx := cxT (tabLook [(126, conD1), (116, conEDLt k)])
def lsED (k : Nat) : LS where
  keep := [(1, .as), (2, .as), (8, .as), (9, .as), (10, .as)]
  left := [(2, .as)]
  sum := fun vs bs K => match vs, bs with
    | [.int .i64 d, .fn f [.ptr 0 0], .row .node l, .int .i64 m, .int .i64 i], [.box [.int .i64 s]] => Rq (f = 126 ∧ m = l.length ∧ i = 0 ∧ cntNds l < k + 1 ∧ 0 ≤ d ∧ d + cntNds l ≤ maxSl ∧ okNds okD gD d l s) (K (.exit 0) [.fn f [.ptr 0 0]] [.box [.int .i64 (eaNds gD d l s)]])
    | _, _ => False
noncomputable def conED : Con := fun args hp => match args, hp with
  | [x, .int .i64 d, .fn f [.ptr 0 0]], [.box [.int .i64 s]] => match Nat.beq f 126 with
    | true => (rowOf .node x).bind fun (l : List Nd) => some { pre := some (0 ≤ d ∧ d + cntNds l ≤ maxSl ∧ okNds okD gD d l s), res := .tup [], hp := [.box [.int .i64 (eaNds gD d l s)]] }
    | false => none
  | _, _ => none
def conK1 : Con := fun args hp => match args, hp with
  | [.agg c, .int .i64 d, .ptr 0 0], [.box [.bool x]] => (toNd c).bind fun n => some { pre := some (okK n d x), res := .tup [], hp := [.box [.bool (gK n d x)]] }
  | _, _ => none
noncomputable def conEKLt (k : Nat) : Con := fun args hp => match args, hp with
  | [x, .int .i64 d, .fn f [.ptr 0 0]], [.box [.bool s]] => match Nat.beq f 117 with
    | true => (rowOf .node x).bind fun (l : List Nd) => some { pre := some (cntNds l < k ∧ 0 ≤ d ∧ d + cntNds l ≤ maxSl ∧ okNds okK gK d l s), res := .tup [], hp := [.box [.bool (eaNds gK d l s)]] }
    | false => none
  | _, _ => none
noncomputable def cxEK (k : Nat) : Cx := cxT (tabLook [(117, conK1), (116, conEKLt k)])
def lsEK (k : Nat) : LS where
  keep := [(1, .as), (2, .as), (8, .as), (9, .as), (10, .as)]
  left := [(2, .as)]
  sum := fun vs bs K => match vs, bs with
    | [.int .i64 d, .fn f [.ptr 0 0], .row .node l, .int .i64 m, .int .i64 i], [.box [.bool s]] => Rq (f = 117 ∧ m = l.length ∧ i = 0 ∧ cntNds l < k + 1 ∧ 0 ≤ d ∧ d + cntNds l ≤ maxSl ∧ okNds okK gK d l s) (K (.exit 0) [.fn f [.ptr 0 0]] [.box [.bool (eaNds gK d l s)]])
    | _, _ => False
noncomputable def conEK : Con := fun args hp => match args, hp with
  | [x, .int .i64 d, .fn f [.ptr 0 0]], [.box [.bool s]] => match Nat.beq f 117 with
    | true => (rowOf .node x).bind fun (l : List Nd) => some { pre := some (0 ≤ d ∧ d + cntNds l ≤ maxSl ∧ okNds okK gK d l s), res := .tup [], hp := [.box [.bool (eaNds gK d l s)]] }
    | false => none
  | _, _ => none
def conL1 : Con := fun args hp => match args, hp with
  | [.agg c, .int .i64 d, .ptr 0 0], [.box [.bool x]] => (toNd c).bind fun n => some { pre := some (okL n d x), res := .tup [], hp := [.box [.bool (gL n d x)]] }
  | _, _ => none
noncomputable def conELLt (k : Nat) : Con := fun args hp => match args, hp with
  | [x, .int .i64 d, .fn f [.ptr 0 0]], [.box [.bool s]] => match Nat.beq f 130 with
    | true => (rowOf .node x).bind fun (l : List Nd) => some { pre := some (cntNds l < k ∧ 0 ≤ d ∧ d + cntNds l ≤ maxSl ∧ okNds okL gL d l s), res := .tup [], hp := [.box [.bool (eaNds gL d l s)]] }
    | false => none
  | _, _ => none
noncomputable def cxEL (k : Nat) : Cx := cxT (tabLook [(130, conL1), (116, conELLt k)])
def lsEL (k : Nat) : LS where
  keep := [(1, .as), (2, .as), (8, .as), (9, .as), (10, .as)]
  left := [(2, .as)]
  sum := fun vs bs K => match vs, bs with
    | [.int .i64 d, .fn f [.ptr 0 0], .row .node l, .int .i64 m, .int .i64 i], [.box [.bool s]] => Rq (f = 130 ∧ m = l.length ∧ i = 0 ∧ cntNds l < k + 1 ∧ 0 ≤ d ∧ d + cntNds l ≤ maxSl ∧ okNds okL gL d l s) (K (.exit 0) [.fn f [.ptr 0 0]] [.box [.bool (eaNds gL d l s)]])
    | _, _ => False
noncomputable def conEL : Con := fun args hp => match args, hp with
  | [x, .int .i64 d, .fn f [.ptr 0 0]], [.box [.bool s]] => match Nat.beq f 130 with
    | true => (rowOf .node x).bind fun (l : List Nd) => some { pre := some (0 ≤ d ∧ d + cntNds l ≤ maxSl ∧ okNds okL gL d l s), res := .tup [], hp := [.box [.bool (eaNds gL d l s)]] }
    | false => none
  | _, _ => none
noncomputable def cxCou : Cx := cxT (tabLook [(116, conEC)])
def conCou : Con := conP [.row .node] fun (l : List Nd) => { pre := some (cntNds l < 1000000), res := .int .i64 (cntNds l) }
noncomputable def cxDep : Cx := cxT (tabLook [(116, conED)])
def conDep : Con := conP [.row .node] fun (l : List Nd) => { pre := some (cntNds l < 1000000), res := .int .i64 (mxNds 1 l 0) }
noncomputable def cxChk : Cx := cxT (tabLook [(113, conCou), (114, conDep), (115, conJoi), (116, conEK)])
def conChk : Con := conP [.row .node] fun (l : List Nd) => { pre := some (fineNds l), res := .int .i64 (checkS l) }
noncomputable def cxToo : Cx := cxT (tabLook [(116, conEL)])
def conToo : Con := conP [.agg .node] fun (n : Nd) => { pre := some (cntNd n < 1000000), res := .bool (lonNd n) }
end Go.Proofs.YtnhipiedjekkpaaGreatDoor.AX
end
section
namespace Go.Proofs.YtnhipiedjekkpaaGreatDoor.AX
open Go AXP
set_option maxRecDepth 100000
theorem vcLeafF (n : Nd) (Q : List AV → List Blk → List Blk → Prop) : (funA cx0 (LL Tryz.f127 []) Tryz.f127 [.agg (nodeL n)] [] [] Q) = (
Br (n.1 == (2 : Int)) (Q [AV.bool true] [] []) (Q [AV.bool (n.1 == (3 : Int))] [] [])) := by kernel_rfl
theorem vcRigF (n : Nd) (Q : List AV → List Blk → List Blk → Prop) : (funA cxRig (LL Tryz.f118 []) Tryz.f118 [.agg (nodeL n)] [] [] Q) = (
Br (leafB (Nd.mk n.1 n.2 n.3 n.4 n.5 n.6))
 (Br (n.2 == (0 : Int))
 (Br (eqS n.3 (ByteArray.mk (Array.mk [])))
 (Br ((↑n.4.length : Int) == (0 : Int))
 (Gv (n.4.length ≤ maxSl)
 (Gv (n.6.length ≤ maxSl)
 (Br ((↑n.6.length : Int) == (0 : Int))
 (Br (goodB n.5)
 (Br (!eqS n.5 (ByteArray.mk (Array.mk []))) (Q [AV.bool true] [] [])
 (Q [AV.bool (n.1 == (3 : Int))] [] []))
 (Q [AV.bool false] [] []))
 (Q [AV.bool false] [] []))))
 (Gv (n.4.length ≤ maxSl) (Q [AV.bool false] [] [])))
 (Q [AV.bool false] [] []))
 (Q [AV.bool false] [] []))
 (Br (n.1 != (1 : Int)) (Q [AV.bool false] [] [])
 (Br (decide (n.2 < (0 : Int))) (Q [AV.bool false] [] [])
 (Br (decide (n.2 > (2 : Int))) (Q [AV.bool false] [] [])
 (Br (!eqS n.5 (ByteArray.mk (Array.mk []))) (Q [AV.bool false] [] [])
 (Rq (oBnd n.4) (Q [AV.bool (wrongE n.3 n.4 == (0 : Int))] [] []))))))) := by kernel_rfl
theorem vcJoiB (l : List Nd) (i : Int) (K : Ex → List AV → List Blk → Prop) : (bodyA cx0 (LL Tryz.f115 [lsJoi]) Tryz.f115.ntmps (loopAt Tryz.f115 0).1 (loopAt Tryz.f115 0).2 lsJoi.keep lsJoi.left K [.row .node l, .int .i64 i] []) = (
Gv (l.length ≤ maxSl)
 (Br (decide (i < (↑l.length : Int)))
 (Rq ((0 : Int) ≤ IntKind.i64.wrap (i - (1 : Int)) ∧ IntKind.i64.wrap (i - (1 : Int)) < (↑l.length : Int))
 (Br ((rd Ty.node l (IntKind.i64.wrap (i - (1 : Int)))).1 == (2 : Int))
 (Rq ((0 : Int) ≤ i ∧ i < (↑l.length : Int))
 (Br ((rd Ty.node l i).1 == (2 : Int)) (K Ex.ret [AV.bool true] [])
 (K Ex.norm [AV.row Ty.node l, AV.int IntKind.i64 (IntKind.i64.wrap (i + (1 : Int)))] [])))
 (K Ex.norm [AV.row Ty.node l, AV.int IntKind.i64 (IntKind.i64.wrap (i + (1 : Int)))] [])))
 (K (Ex.exit (0 : Nat)) [AV.any] []))) := by kernel_rfl
theorem vcJoiF (l : List Nd) (Q : List AV → List Blk → List Blk → Prop) : (funA cx0 (LL Tryz.f115 [lsJoi]) Tryz.f115 [.row .node l] [] [] Q) = (
Rq ((1 : Int) = (1 : Int)) (Br (joinB l) (Q [AV.bool true] [] []) (Q [AV.bool false] [] []))) := by kernel_rfl
theorem vcBigF (a : At) (Q : List AV → List Blk → List Blk → Prop) : (funA cx0 (LL Tryz.f131 []) Tryz.f131 [.agg [.str a.name, .str a.value]] [] [] Q) = (
Gv (a.2.size ≤ maxSl) (Q [AV.bool (decide ((↑a.2.size : Int) > (65536 : Int)))] [] [])) := by kernel_rfl
theorem vcIdxB (l : List At) (m i : Int) (K : Ex → List AV → List Blk → Prop) : (bodyA cxIdx (LL Tryz.f122 [lsIdx]) Tryz.f122.ntmps (loopAt Tryz.f122 0).1 (loopAt Tryz.f122 0).2 lsIdx.keep lsIdx.left K [.row .attr l, .fn 131 [], .int .i64 m, .int .i64 i] []) = (
Br (decide (i < m))
 (Rq ((0 : Int) ≤ i ∧ i < (↑l.length : Int))
 (Br (bigA (At.mk (rd Ty.attr l i).1 (rd Ty.attr l i).2)) (K Ex.ret [AV.int IntKind.i64 i] [])
 (K Ex.norm
 [AV.row Ty.attr l, AV.fn 131 [], AV.int IntKind.i64 m,
 AV.int IntKind.i64 (IntKind.i64.wrap (i + (1 : Int)))]
 [])))
 (K (Ex.exit (0 : Nat)) [AV.any] [])) := by kernel_rfl
theorem vcIdxF (l : List At) (Q : List AV → List Blk → List Blk → Prop) : (funA cxIdx (LL Tryz.f122 [lsIdx]) Tryz.f122 [.row .attr l, .fn 131 []] [] [] Q) = (
Gv (l.length ≤ maxSl)
 (Rq ((131 : Nat) = (131 : Nat) ∧ (↑l.length : Int) = (↑l.length : Int) ∧ (0 : Int) = (0 : Int) ∧ l.length ≤ maxSl)
 (Br (l.any bigA) (Q [AV.int IntKind.i64 (ixA (0 : Nat) l)] [] []) (Q [AV.int IntKind.i64 (-1 : Int)] [] [])))) := by kernel_rfl
theorem vcCFF (l : List At) (Q : List AV → List Blk → List Blk → Prop) : (funA cxCF (LL Tryz.f100 []) Tryz.f100 [.row .attr l, .fn 131 []] [] [] Q) = (
Q [AV.bool (decide (ixA (0 : Nat) l ≥ (0 : Int)))] [] []) := by kernel_rfl
theorem vcC1F (n : Nd) (d x : Int) (Q : List AV → List Blk → List Blk → Prop) : (funA cx0 (LL Tryz.f125 []) Tryz.f125 [.agg (nodeL n), .int .i64 d, .ptr 0 0] [.box [.int .i64 x]] [] Q) = (
Q [] [Blk.box [AV.int IntKind.i64 (IntKind.i64.wrap (x + (1 : Int)))]] []) := by kernel_rfl
theorem vcD1F (n : Nd) (d x : Int) (Q : List AV → List Blk → List Blk → Prop) : (funA cxD1 (LL Tryz.f126 []) Tryz.f126 [.agg (nodeL n), .int .i64 d, .ptr 0 0] [.box [.int .i64 x]] [] Q) = (
Br (!leafB (Nd.mk n.1 n.2 n.3 n.4 n.5 n.6)) (Q [] [Blk.box [AV.int IntKind.i64 (if d > x then d else x)]] [])
 (Q [] [Blk.box [AV.int IntKind.i64 x]] [])) := by kernel_rfl
theorem vcK1F (n : Nd) (d : Int) (x : Bool) (Q : List AV → List Blk → List Blk → Prop) : (funA cxK1 (LL Tryz.f117 []) Tryz.f117 [.agg (nodeL n), .int .i64 d, .ptr 0 0] [.box [.bool x]] [] Q) = (
Br x
 (Rq (oBnd n.4)
 (Br (rightB (Nd.mk n.1 n.2 n.3 n.4 n.5 n.6)) (Q [] [Blk.box [AV.bool !joinB n.6]] [])
 (Q [] [Blk.box [AV.bool false]] [])))
 (Q [] [Blk.box [AV.bool false]] [])) := by kernel_rfl
theorem vcL1F (n : Nd) (d : Int) (x : Bool) (Q : List AV → List Blk → List Blk → Prop) : (funA cxL1 (LL Tryz.f130 []) Tryz.f130 [.agg (nodeL n), .int .i64 d, .ptr 0 0] [.box [.bool x]] [] Q) = (
Br x (Q [] [Blk.box [AV.bool true]] [])
 (Br (decide ((↑n.5.size : Int) > (65536 : Int))) (Gv (n.5.size ≤ maxSl) (Q [] [Blk.box [AV.bool true]] []))
 (Gv (n.5.size ≤ maxSl) (Q [] [Blk.box [AV.bool (n.4.any bigA)]] [])))) := by kernel_rfl
theorem vcECB (k : Nat) (l : List Nd) (d m i : Int) (s : Int) (K : Ex → List AV → List Blk → Prop) : (bodyA (cxEC k) (LL Tryz.f116 [lsEC k]) Tryz.f116.ntmps (loopAt Tryz.f116 0).1 (loopAt Tryz.f116 0).2 (lsEC k).keep (lsEC k).left K [.int .i64 d, .fn 125 [.ptr 0 0], .row .node l, .int .i64 m, .int .i64 i] [.box [.int .i64 s]]) = (
Br (decide (i < m))
 (Rq ((0 : Int) ≤ i ∧ i < (↑l.length : Int))
 (Rq
 (okC
 (Nd.mk (rd Ty.node l i).1 (rd Ty.node l i).2 (rd Ty.node l i).3 (rd Ty.node l i).4 (rd Ty.node l i).5
 (rd Ty.node l i).6)
 d s)
 (Rq
 (cntNds (rd Ty.node l i).6 < k ∧
 (0 : Int) ≤ IntKind.i64.wrap (d + (1 : Int)) ∧
 IntKind.i64.wrap (d + (1 : Int)) + (↑(cntNds (rd Ty.node l i).6) : Int) ≤ (↑maxSl : Int) ∧
 okNds okC gC (IntKind.i64.wrap (d + (1 : Int))) (rd Ty.node l i).6
 (gC
 (Nd.mk (rd Ty.node l i).1 (rd Ty.node l i).2 (rd Ty.node l i).3 (rd Ty.node l i).4 (rd Ty.node l i).5
 (rd Ty.node l i).6)
 d s))
 (K Ex.norm
 [AV.int IntKind.i64 d, AV.fn 125 [AV.ptr (0 : Nat) (0 : Nat)], AV.row Ty.node l, AV.int IntKind.i64 m,
 AV.int IntKind.i64 (IntKind.i64.wrap (i + (1 : Int)))]
 [Blk.box
 [AV.int IntKind.i64
 (eaNds gC (IntKind.i64.wrap (d + (1 : Int))) (rd Ty.node l i).6
 (gC
 (Nd.mk (rd Ty.node l i).1 (rd Ty.node l i).2 (rd Ty.node l i).3 (rd Ty.node l i).4
 (rd Ty.node l i).5 (rd Ty.node l i).6)
 d s))]]))))
 (K (Ex.exit (0 : Nat)) [AV.fn 125 [AV.ptr (0 : Nat) (0 : Nat)]] [Blk.box [AV.int IntKind.i64 s]])) := by kernel_rfl
theorem vcECF (k : Nat) (l : List Nd) (d : Int) (s : Int) (Q : List AV → List Blk → List Blk → Prop) : (funS (cxEC k) (LL Tryz.f116 [lsEC k]) Tryz.f116 [.row .node l, .int .i64 d, .fn 125 [.ptr 0 0]] [.box [.int .i64 s]] [.cap 2 0] [] [] Q) = (
Gv (l.length ≤ maxSl)
 (Rq
 ((125 : Nat) = (125 : Nat) ∧
 (↑l.length : Int) = (↑l.length : Int) ∧
 (0 : Int) = (0 : Int) ∧
 cntNds l < k + (1 : Nat) ∧ (0 : Int) ≤ d ∧ d + (↑(cntNds l) : Int) ≤ (↑maxSl : Int) ∧ okNds okC gC d l s)
 (Q [] [Blk.box [AV.int IntKind.i64 (eaNds gC d l s)]] []))) := by kernel_rfl
theorem vcEDB (k : Nat) (l : List Nd) (d m i : Int) (s : Int) (K : Ex → List AV → List Blk → Prop) : (bodyA (cxED k) (LL Tryz.f116 [lsED k]) Tryz.f116.ntmps (loopAt Tryz.f116 0).1 (loopAt Tryz.f116 0).2 (lsED k).keep (lsED k).left K [.int .i64 d, .fn 126 [.ptr 0 0], .row .node l, .int .i64 m, .int .i64 i] [.box [.int .i64 s]]) = (
Br (decide (i < m))
 (Rq ((0 : Int) ≤ i ∧ i < (↑l.length : Int))
 (Rq
 (okD
 (Nd.mk (rd Ty.node l i).1 (rd Ty.node l i).2 (rd Ty.node l i).3 (rd Ty.node l i).4 (rd Ty.node l i).5
 (rd Ty.node l i).6)
 d s)
 (Rq
 (cntNds (rd Ty.node l i).6 < k ∧
 (0 : Int) ≤ IntKind.i64.wrap (d + (1 : Int)) ∧
 IntKind.i64.wrap (d + (1 : Int)) + (↑(cntNds (rd Ty.node l i).6) : Int) ≤ (↑maxSl : Int) ∧
 okNds okD gD (IntKind.i64.wrap (d + (1 : Int))) (rd Ty.node l i).6
 (gD
 (Nd.mk (rd Ty.node l i).1 (rd Ty.node l i).2 (rd Ty.node l i).3 (rd Ty.node l i).4 (rd Ty.node l i).5
 (rd Ty.node l i).6)
 d s))
 (K Ex.norm
 [AV.int IntKind.i64 d, AV.fn 126 [AV.ptr (0 : Nat) (0 : Nat)], AV.row Ty.node l, AV.int IntKind.i64 m,
 AV.int IntKind.i64 (IntKind.i64.wrap (i + (1 : Int)))]
 [Blk.box
 [AV.int IntKind.i64
 (eaNds gD (IntKind.i64.wrap (d + (1 : Int))) (rd Ty.node l i).6
 (gD
 (Nd.mk (rd Ty.node l i).1 (rd Ty.node l i).2 (rd Ty.node l i).3 (rd Ty.node l i).4
 (rd Ty.node l i).5 (rd Ty.node l i).6)
 d s))]]))))
 (K (Ex.exit (0 : Nat)) [AV.fn 126 [AV.ptr (0 : Nat) (0 : Nat)]] [Blk.box [AV.int IntKind.i64 s]])) := by kernel_rfl
theorem vcEDF (k : Nat) (l : List Nd) (d : Int) (s : Int) (Q : List AV → List Blk → List Blk → Prop) : (funS (cxED k) (LL Tryz.f116 [lsED k]) Tryz.f116 [.row .node l, .int .i64 d, .fn 126 [.ptr 0 0]] [.box [.int .i64 s]] [.cap 2 0] [] [] Q) = (
Gv (l.length ≤ maxSl)
 (Rq
 ((126 : Nat) = (126 : Nat) ∧
 (↑l.length : Int) = (↑l.length : Int) ∧
 (0 : Int) = (0 : Int) ∧
 cntNds l < k + (1 : Nat) ∧ (0 : Int) ≤ d ∧ d + (↑(cntNds l) : Int) ≤ (↑maxSl : Int) ∧ okNds okD gD d l s)
 (Q [] [Blk.box [AV.int IntKind.i64 (eaNds gD d l s)]] []))) := by kernel_rfl
theorem vcEKB (k : Nat) (l : List Nd) (d m i : Int) (s : Bool) (K : Ex → List AV → List Blk → Prop) : (bodyA (cxEK k) (LL Tryz.f116 [lsEK k]) Tryz.f116.ntmps (loopAt Tryz.f116 0).1 (loopAt Tryz.f116 0).2 (lsEK k).keep (lsEK k).left K [.int .i64 d, .fn 117 [.ptr 0 0], .row .node l, .int .i64 m, .int .i64 i] [.box [.bool s]]) = (
Br (decide (i < m))
 (Rq ((0 : Int) ≤ i ∧ i < (↑l.length : Int))
 (Rq
 (okK
 (Nd.mk (rd Ty.node l i).1 (rd Ty.node l i).2 (rd Ty.node l i).3 (rd Ty.node l i).4 (rd Ty.node l i).5
 (rd Ty.node l i).6)
 d s)
 (Rq
 (cntNds (rd Ty.node l i).6 < k ∧
 (0 : Int) ≤ IntKind.i64.wrap (d + (1 : Int)) ∧
 IntKind.i64.wrap (d + (1 : Int)) + (↑(cntNds (rd Ty.node l i).6) : Int) ≤ (↑maxSl : Int) ∧
 okNds okK gK (IntKind.i64.wrap (d + (1 : Int))) (rd Ty.node l i).6
 (gK
 (Nd.mk (rd Ty.node l i).1 (rd Ty.node l i).2 (rd Ty.node l i).3 (rd Ty.node l i).4 (rd Ty.node l i).5
 (rd Ty.node l i).6)
 d s))
 (K Ex.norm
 [AV.int IntKind.i64 d, AV.fn 117 [AV.ptr (0 : Nat) (0 : Nat)], AV.row Ty.node l, AV.int IntKind.i64 m,
 AV.int IntKind.i64 (IntKind.i64.wrap (i + (1 : Int)))]
 [Blk.box
 [AV.bool
 (eaNds gK (IntKind.i64.wrap (d + (1 : Int))) (rd Ty.node l i).6
 (gK
 (Nd.mk (rd Ty.node l i).1 (rd Ty.node l i).2 (rd Ty.node l i).3 (rd Ty.node l i).4
 (rd Ty.node l i).5 (rd Ty.node l i).6)
 d s))]]))))
 (K (Ex.exit (0 : Nat)) [AV.fn 117 [AV.ptr (0 : Nat) (0 : Nat)]] [Blk.box [AV.bool s]])) := by kernel_rfl
theorem vcEKF (k : Nat) (l : List Nd) (d : Int) (s : Bool) (Q : List AV → List Blk → List Blk → Prop) : (funS (cxEK k) (LL Tryz.f116 [lsEK k]) Tryz.f116 [.row .node l, .int .i64 d, .fn 117 [.ptr 0 0]] [.box [.bool s]] [.cap 2 0] [] [] Q) = (
Gv (l.length ≤ maxSl)
 (Rq
 ((117 : Nat) = (117 : Nat) ∧
 (↑l.length : Int) = (↑l.length : Int) ∧
 (0 : Int) = (0 : Int) ∧
 cntNds l < k + (1 : Nat) ∧ (0 : Int) ≤ d ∧ d + (↑(cntNds l) : Int) ≤ (↑maxSl : Int) ∧ okNds okK gK d l s)
 (Q [] [Blk.box [AV.bool (eaNds gK d l s)]] []))) := by kernel_rfl
theorem vcELB (k : Nat) (l : List Nd) (d m i : Int) (s : Bool) (K : Ex → List AV → List Blk → Prop) : (bodyA (cxEL k) (LL Tryz.f116 [lsEL k]) Tryz.f116.ntmps (loopAt Tryz.f116 0).1 (loopAt Tryz.f116 0).2 (lsEL k).keep (lsEL k).left K [.int .i64 d, .fn 130 [.ptr 0 0], .row .node l, .int .i64 m, .int .i64 i] [.box [.bool s]]) = (
Br (decide (i < m))
 (Rq ((0 : Int) ≤ i ∧ i < (↑l.length : Int))
 (Rq
 (okL
 (Nd.mk (rd Ty.node l i).1 (rd Ty.node l i).2 (rd Ty.node l i).3 (rd Ty.node l i).4 (rd Ty.node l i).5
 (rd Ty.node l i).6)
 d s)
 (Rq
 (cntNds (rd Ty.node l i).6 < k ∧
 (0 : Int) ≤ IntKind.i64.wrap (d + (1 : Int)) ∧
 IntKind.i64.wrap (d + (1 : Int)) + (↑(cntNds (rd Ty.node l i).6) : Int) ≤ (↑maxSl : Int) ∧
 okNds okL gL (IntKind.i64.wrap (d + (1 : Int))) (rd Ty.node l i).6
 (gL
 (Nd.mk (rd Ty.node l i).1 (rd Ty.node l i).2 (rd Ty.node l i).3 (rd Ty.node l i).4 (rd Ty.node l i).5
 (rd Ty.node l i).6)
 d s))
 (K Ex.norm
 [AV.int IntKind.i64 d, AV.fn 130 [AV.ptr (0 : Nat) (0 : Nat)], AV.row Ty.node l, AV.int IntKind.i64 m,
 AV.int IntKind.i64 (IntKind.i64.wrap (i + (1 : Int)))]
 [Blk.box
 [AV.bool
 (eaNds gL (IntKind.i64.wrap (d + (1 : Int))) (rd Ty.node l i).6
 (gL
 (Nd.mk (rd Ty.node l i).1 (rd Ty.node l i).2 (rd Ty.node l i).3 (rd Ty.node l i).4
 (rd Ty.node l i).5 (rd Ty.node l i).6)
 d s))]]))))
 (K (Ex.exit (0 : Nat)) [AV.fn 130 [AV.ptr (0 : Nat) (0 : Nat)]] [Blk.box [AV.bool s]])) := by kernel_rfl
theorem vcELF (k : Nat) (l : List Nd) (d : Int) (s : Bool) (Q : List AV → List Blk → List Blk → Prop) : (funS (cxEL k) (LL Tryz.f116 [lsEL k]) Tryz.f116 [.row .node l, .int .i64 d, .fn 130 [.ptr 0 0]] [.box [.bool s]] [.cap 2 0] [] [] Q) = (
Gv (l.length ≤ maxSl)
 (Rq
 ((130 : Nat) = (130 : Nat) ∧
 (↑l.length : Int) = (↑l.length : Int) ∧
 (0 : Int) = (0 : Int) ∧
 cntNds l < k + (1 : Nat) ∧ (0 : Int) ≤ d ∧ d + (↑(cntNds l) : Int) ≤ (↑maxSl : Int) ∧ okNds okL gL d l s)
 (Q [] [Blk.box [AV.bool (eaNds gL d l s)]] []))) := by kernel_rfl
theorem vcCouF (l : List Nd) (Q : List AV → List Blk → List Blk → Prop) : (funA cxCou (LL Tryz.f113 []) Tryz.f113 [.row .node l] [] [] Q) = (
Rq ((0 : Int) ≤ (1 : Int) ∧ (1 : Int) + (↑(cntNds l) : Int) ≤ (↑maxSl : Int) ∧ okNds okC gC (1 : Int) l (0 : Int))
 (Q [AV.int IntKind.i64 (eaNds gC (1 : Int) l (0 : Int))] [] [])) := by kernel_rfl
theorem vcDepF (l : List Nd) (Q : List AV → List Blk → List Blk → Prop) : (funA cxDep (LL Tryz.f114 []) Tryz.f114 [.row .node l] [] [] Q) = (
Rq ((0 : Int) ≤ (1 : Int) ∧ (1 : Int) + (↑(cntNds l) : Int) ≤ (↑maxSl : Int) ∧ okNds okD gD (1 : Int) l (0 : Int))
 (Q [AV.int IntKind.i64 (eaNds gD (1 : Int) l (0 : Int))] [] [])) := by kernel_rfl
theorem vcChkF (l : List Nd) (Q : List AV → List Blk → List Blk → Prop) : (funA cxChk (LL Tryz.f97 []) Tryz.f97 [.row .node l] [] [] Q) = (
Rq (cntNds l < (1000000 : Nat))
 (Br (decide ((↑(cntNds l) : Int) > (300 : Int))) (Q [AV.int IntKind.i64 (2 : Int)] [] [])
 (Rq (cntNds l < (1000000 : Nat))
 (Br (decide (mxNds (1 : Int) l (0 : Int) > (40 : Int))) (Q [AV.int IntKind.i64 (2 : Int)] [] [])
 (Rq
 ((0 : Int) ≤ (1 : Int) ∧ (1 : Int) + (↑(cntNds l) : Int) ≤ (↑maxSl : Int) ∧ okNds okK gK (1 : Int) l !joinB l)
 (Br (!eaNds gK (1 : Int) l !joinB l) (Q [AV.int IntKind.i64 (4 : Int)] [] [])
 (Q [AV.int IntKind.i64 (0 : Int)] [] []))))))) := by kernel_rfl
theorem vcTooF (n : Nd) (Q : List AV → List Blk → List Blk → Prop) : (funA cxToo (LL Tryz.f119 []) Tryz.f119 [.agg (nodeL n)] [] [] Q) = (
Rq
 ((0 : Int) ≤ (1 : Int) ∧
 (1 : Int) + (↑(cntNds [Nd.mk n.1 n.2 n.3 n.4 n.5 n.6]) : Int) ≤ (↑maxSl : Int) ∧
 okNds okL gL (1 : Int) [Nd.mk n.1 n.2 n.3 n.4 n.5 n.6] false)
 (Q [AV.bool (eaNds gL (1 : Int) [Nd.mk n.1 n.2 n.3 n.4 n.5 n.6] false)] [] [])) := by kernel_rfl
end Go.Proofs.YtnhipiedjekkpaaGreatDoor.AX
end
section
namespace Go.Proofs.YtnhipiedjekkpaaGreatDoor.AX
open Go AXP
set_option maxRecDepth 100000
theorem vcNodeF (k : Nat) (a b : Nd) (Q : List AV → List Blk → List Blk → Prop) : (funA (cxNode k) noLoop Tryz.f37 [.agg (nodeL a), .agg (nodeL b)] [] [] Q) = (
Br (a.1 == b.1)
 (Br (a.2 == b.2)
 (Br (eqS a.3 b.3)
 (Br (eqS a.5 b.5)
 (Br (eql eqAt a.4 b.4) (Rq (szNds a.6 < k) (Q [AV.bool (eql eqNd a.6 b.6)] [] [])) (Q [AV.bool false] [] []))
 (Q [AV.bool false] [] []))
 (Q [AV.bool false] [] []))
 (Q [AV.bool false] [] []))
 (Q [AV.bool false] [] [])) := by kernel_rfl
theorem vcNds (k : Nat) (a b : List Nd) (i m : Int) (K : Ex → List AV → List Blk → Prop) : (bodyA (cxNodes k) noLoop Tryz.f75.ntmps (blkOf Tryz.f75 0) (bodyOf Tryz.f75 0) keepBeg leftBeg K [.row .node a, .row .node b, .row .node a, .int .i64 m, .int .i64 i] []) = (
Br (decide (i < m))
 (Br (decide (i ≥ (↑b.length : Int)))
 (Gv (b.length ≤ maxSl) (K Ex.ret [AV.row Ty.node a, AV.row Ty.node b, AV.bool false] []))
 (Rq ((0 : Int) ≤ i ∧ i < (↑a.length : Int))
 (Rq ((0 : Int) ≤ i ∧ i < (↑b.length : Int))
 (Rq (szNds (rd Ty.node a i).6 < k)
 (Gv (b.length ≤ maxSl)
 (Br
 (!eqNd
 (Nd.mk (rd Ty.node a i).1 (rd Ty.node a i).2 (rd Ty.node a i).3 (rd Ty.node a i).4 (rd Ty.node a i).5
 (rd Ty.node a i).6)
 (Nd.mk (rd Ty.node b i).1 (rd Ty.node b i).2 (rd Ty.node b i).3 (rd Ty.node b i).4 (rd Ty.node b i).5
 (rd Ty.node b i).6))
 (K Ex.ret [AV.row Ty.node a, AV.row Ty.node b, AV.bool false] [])
 (K Ex.norm
 [AV.row Ty.node a, AV.row Ty.node b, AV.row Ty.node a, AV.int IntKind.i64 m,
 AV.int IntKind.i64 (IntKind.i64.wrap (i + (1 : Int)))]
 [])))))))
 (K (Ex.exit (0 : Nat)) [AV.row Ty.node a, AV.row Ty.node b, AV.any] [])) := by kernel_rfl
theorem vcNdsF (k : Nat) (a b : List Nd) (Q : List AV → List Blk → List Blk → Prop) : (funA (cxNodes k) (fun _ s K => loopA Tryz.f75.ntmps keepBeg leftBeg (sumNds k) s K) Tryz.f75 [.row .node a, .row .node b] [] [] Q) = (
Gv (a.length ≤ maxSl)
 (Rq (szNds a < k + (1 : Nat))
 (Rq (a = a ∧ (↑a.length : Int) = (↑a.length : Int) ∧ (0 : Int) = (0 : Int) ∧ a.length ≤ maxSl)
 (Br (beg eqNd a b)
 (Gv (a.length ≤ maxSl) (Gv (b.length ≤ maxSl) (Q [AV.bool ((↑a.length : Int) == (↑b.length : Int))] [] [])))
 (Q [AV.bool false] [] []))))) := by kernel_rfl
end Go.Proofs.YtnhipiedjekkpaaGreatDoor.AX
end
section
namespace Go.Proofs.YtnhipiedjekkpaaGreatDoor.AX
open Go AXP
set_option maxRecDepth 100000
theorem asNodes_le {x : AV} {l : List Nd} (h : asNodes x = some l) : AVle x (.row .node l) := fun w O I v hv => by
  cases x <;> first | (cases h; done) | exact .leaf (asNodes_R (show LeafR w O I v _ from hv) h)
theorem toNd_le {x : List AV} {n : Nd} (h : toNd x = some n) : AVle (.agg x) (.agg (nodeL n)) := fun w O I v hv => by
  obtain ⟨cs, rfl, hall⟩ := hv
  exact ⟨cs, rfl, toNd_R hall h⟩
theorem nd_eta (n : Nd) : Nd.mk n.1 n.2 n.3 n.4 n.5 n.6 = n := by cases n; rfl
theorem eqNd_eq (a b : Nd) : eqNd a b = (a.1 == b.1 && a.2 == b.2 && eqS a.3 b.3 && eqS a.5 b.5 && eql eqAt a.4 b.4 && eqNds a.6 b.6) := by cases a; cases b; rw [eqNd]
theorem node_of {k : Nat} (h : Holds 75 (conNodesLt k)) : Holds 37 (conNode k) := by
  have tok : TOK (cxNode k) := tab_ok (fun p hp => by
    cases hp with
    | head => exact h
    | tail _ hp => cases hp with
      | head => exact ats_holds
      | tail _ hp => cases hp) (fun p hp => by
    cases hp with
    | head => exact enter_of (by kernel_rfl)
    | tail _ hp => cases hp with
      | head => exact enter_of (by kernel_rfl)
      | tail _ hp => cases hp)
  intro args hp ans hc
  unfold conNode at hc
  split at hc
  · rename_i x y
    simp only [Option.bind_eq_some_iff] at hc
    obtain ⟨a, hx, b, hy, hc⟩ := hc
    injection hc with hc
    subst hc
    refine Meets.weaken (.cons (toNd_le hx) (.cons (toNd_le hy) .nil)) ?_
    refine meets_any (T := fun _ _ _ => none) (show Meets (cxNode k) _ _ _ _ from ?_)
    refine fun_meets (fn := Tryz.f37) (c := Tryz.f37.body.getD .skip) (ws := []) (L := noLoop) (cxOK _) tok (by kernel_rfl) (by kernel_rfl) (fun p hp => ?_) (by kernel_rfl) (by kernel_rfl) fun hpre => ?_
    · have : (loopsOf 0 (Tryz.f37.body.getD .skip)).length = 0 := by kernel_rfl
      rw [List.eq_nil_of_length_eq_zero this] at hp; cases hp
    · have e := eqNd_eq a b
      rw [eqNds_eql] at e
      refine Eq.mpr (vcNodeF k a b _) ⟨fun h1 => ⟨fun h2 => ⟨fun h3 => ⟨fun h4 => ⟨fun h5 => ⟨hpre _ rfl, ⟨fun _ h => (nomatch h), ?_, rfl, rfl⟩⟩, fun h5 => ⟨fun _ h => (nomatch h), ?_, rfl, rfl⟩⟩, fun h4 => ⟨fun _ h => (nomatch h), ?_, rfl, rfl⟩⟩, fun h3 => ⟨fun _ h => (nomatch h), ?_, rfl, rfl⟩⟩, fun h2 => ⟨fun _ h => (nomatch h), ?_, rfl, rfl⟩⟩, fun h1 => ⟨fun _ h => (nomatch h), ?_, rfl, rfl⟩⟩ <;>
      · show [AV.bool _] = [AV.bool _]
        rw [e]
        simp only [*, Bool.true_and, Bool.false_and, Bool.and_false]
  · cases hc
theorem nodes_step {k : Nat} (h : Holds 37 (conNode k)) : Holds 75 (conNodesLt (k + 1)) := by
  have tok : TOK (cxNodes k) := tab_ok (fun p hp => by
    cases hp with
    | head => exact h
    | tail _ hp => cases hp) (fun p hp => by
    cases hp with
    | head => exact enter_of (by kernel_rfl)
    | tail _ hp => cases hp)
  intro args hp ans hc
  unfold conNodesLt at hc
  split at hc
  · rename_i x y
    simp only [Option.bind_eq_some_iff] at hc
    obtain ⟨a, hx, b, hy, hc⟩ := hc
    injection hc with hc
    subst hc
    refine Meets.weaken (.cons (asNodes_le hx) (.cons (asNodes_le hy) .nil)) ?_
    refine beg_fun tok (t := .node) (g := eqNd) (sum := sumNds k) (f := 75) (fn := Tryz.f75) (by kernel_rfl) (by kernel_rfl) (by kernel_rfl) (by kernel_rfl) (by kernel_rfl) (by kernel_rfl) (by kernel_rfl) (by kernel_rfl) (ok := fun a => szNds a < k + 1) (fun a b hs i K h => ?_) (fun vs bs K hs => ?_) a b _ (fun hpre Q h => ?_)
    · refine Eq.mpr (vcNds k a b i a.length K) ⟨fun h1 => ⟨fun h2 => (h.yes h1).yes h2, fun h2 => ?_⟩, h.no⟩
      obtain ⟨i1, i2, i3⟩ := (h.yes h1).no h2
      refine ⟨i1, i2, ?_, ?_⟩
      · have hlt : i < a.length := by have := i1.2; omega
        have ra : rd .node a (i : Int) = a[i] := by rw [rd_eq (by simpa using hlt)]; simp
        rw [ra]
        exact Nat.lt_of_lt_of_le (szNds_kids hlt) (Nat.le_of_lt_succ hs)
      · rw [nd_eta (rd .node a (i : Int)), nd_eta (rd .node b (i : Int))]; exact i3
    · unfold sumNds at hs
      split at hs
      · exact ⟨_, _, _, _, _, hs.it, rfl, rfl, hs.on⟩
      · exact hs.elim
    · refine Eq.mpr (vcNdsF k a b Q) ⟨fun h1 => ⟨hpre _ rfl, h.on h1⟩⟩
  · cases hc
theorem nodes_lt : ∀ k, Holds 75 (conNodesLt k)
  | 0 => by
    intro args hp ans hc
    unfold conNodesLt at hc
    split at hc
    · simp only [Option.bind_eq_some_iff] at hc
      obtain ⟨a, hx, b, hy, hc⟩ := hc
      injection hc with hc
      subst hc
      intro F I w vals _ _ hpre
      exact absurd (hpre _ rfl) (Nat.not_lt_zero _)
    · cases hc
  | k + 1 => nodes_step (node_of (nodes_lt k))
theorem Meets.nopre {cx : Cx} {f : Nat} {args : List AV} {hp : List Blk} {ans : Ans} (h : Meets cx f args hp ans) (hp' : ∀ p, ans.pre = some p → p) : Meets cx f args hp { ans with pre := none } :=
  fun F I w vals hH hv _ => h F I w vals hH hv hp'
def conNode' : Con := fun args hp => match args, hp with
  | [.agg x, .agg y], [] => (toNd x).bind fun a => (toNd y).bind fun b => some { res := .bool (eqNd a b) }
  | _, _ => none
theorem node_holds : Holds 37 conNode' := by
  intro args hp ans hc
  unfold conNode' at hc
  split at hc
  · rename_i x y
    simp only [Option.bind_eq_some_iff] at hc
    obtain ⟨a, hx, b, hy, hc⟩ := hc
    injection hc with hc
    subst hc
    refine Meets.nopre (ans := { pre := some (szNds a.kids < szNds a.kids + 1), res := .bool (eqNd a b) }) (node_of (nodes_lt (szNds a.kids + 1)) [.agg x, .agg y] [] { pre := some (szNds a.kids < szNds a.kids + 1), res := .bool (eqNd a b) } ?_) (fun p hp => ?_)
    · simp only [conNode, hx, hy, Option.bind_some]
    · injection hp with hp; subst hp; exact Nat.lt_succ_self _
  · cases hc
end Go.Proofs.YtnhipiedjekkpaaGreatDoor.AX
end
section
namespace Go.Proofs.YtnhipiedjekkpaaGreatDoor.AX
open Go AXP
set_option maxRecDepth 100000
end Go.Proofs.YtnhipiedjekkpaaGreatDoor.AX
end
section
namespace Go.Proofs.YtnhipiedjekkpaaGreatDoor.AX
open Go AXP
set_option maxRecDepth 100000
end Go.Proofs.YtnhipiedjekkpaaGreatDoor.AX
end
section
namespace Go.Proofs.YtnhipiedjekkpaaGreatDoor.AXP
open Go Go.Proofs.YtnhipiedjekkpaaGreatDoor.AX
end Go.Proofs.YtnhipiedjekkpaaGreatDoor.AXP
namespace Go.Proofs.YtnhipiedjekkpaaGreatDoor.AX
open Go AXP
end Go.Proofs.YtnhipiedjekkpaaGreatDoor.AX
end
section
namespace Go.Proofs.YtnhipiedjekkpaaGreatDoor.AX
open Go AXP
set_option maxRecDepth 100000
end Go.Proofs.YtnhipiedjekkpaaGreatDoor.AX
end
section
namespace Go.Proofs.YtnhipiedjekkpaaGreatDoor.AX
open Go AXP
set_option maxRecDepth 100000
end Go.Proofs.YtnhipiedjekkpaaGreatDoor.AX
end
section
namespace Go.Proofs.YtnhipiedjekkpaaGreatDoor.AXP
open Go Go.Proofs.YtnhipiedjekkpaaGreatDoor.AX
theorem eaNd_eq {σ : Type} (g : Nd → Int → σ → σ) (d : Int) (n : Nd) (x : σ) : eaNd g d n x = eaNds g (d + 1) n.kids (g n d x) := by cases n; rw [eaNd]
theorem okNd_eq {σ : Type} (p : Nd → Int → σ → Prop) (g : Nd → Int → σ → σ) (d : Int) (n : Nd) (x : σ) : okNd p g d n x = (p n d x ∧ okNds p g (d + 1) n.kids (g n d x)) := by cases n; rw [okNd]
mutual
theorem eaC : ∀ (n : Nd) (d x : Int), eaNd gC d n x = x + cntNd n
  | ⟨k, s, m, a, t, c⟩, d, x => by rw [eaNd, eaCs c, cntNd]; unfold gC; omega
theorem eaCs : ∀ (l : List Nd) (d x : Int), eaNds gC d l x = x + cntNds l
  | [], d, x => by rw [eaNds, cntNds]; omega
  | n :: l, d, x => by rw [eaNds, eaC n, eaCs l, cntNds]; omega
end
mutual
theorem okC_of : ∀ (n : Nd) (d x : Int), 0 ≤ x → x + cntNd n ≤ maxSl → okNd okC gC d n x
  | ⟨k, s, m, a, t, c⟩, d, x, h0, h => by
    rw [cntNd] at h
    rw [okNd]
    refine ⟨⟨h0, by omega⟩, okCs_of c _ _ ?_ ?_⟩ <;> unfold gC <;> omega
theorem okCs_of : ∀ (l : List Nd) (d x : Int), 0 ≤ x → x + cntNds l ≤ maxSl → okNds okC gC d l x
  | [], d, x, _, _ => by rw [okNds]; trivial
  | n :: l, d, x, h0, h => by
    rw [cntNds] at h
    rw [okNds]
    exact ⟨okC_of n _ _ h0 (by omega), okCs_of l _ _ (by rw [eaC]; omega) (by rw [eaC]; omega)⟩
end
mutual
theorem eaD : ∀ (n : Nd) (d x : Int), eaNd gD d n x = mxNd d n x
  | ⟨k, s, m, a, t, c⟩, d, x => by rw [eaNd, eaDs c, mxNd]; rfl
theorem eaDs : ∀ (l : List Nd) (d x : Int), eaNds gD d l x = mxNds d l x
  | [], d, x => by rw [eaNds, mxNds]
  | n :: l, d, x => by rw [eaNds, eaD n, eaDs l, mxNds]
end
mutual
theorem okD_of : ∀ (n : Nd) (d x : Int), okNd okD gD d n x
  | ⟨k, s, m, a, t, c⟩, d, x => by rw [okNd]; exact ⟨trivial, okDs_of c _ _⟩
theorem okDs_of : ∀ (l : List Nd) (d x : Int), okNds okD gD d l x
  | [], d, x => by rw [okNds]; trivial
  | n :: l, d, x => by rw [okNds]; exact ⟨okD_of n _ _, okDs_of l _ _⟩
end
mutual
theorem eaK : ∀ (n : Nd) (d : Int) (x : Bool), eaNd gK d n x = (x && allB n)
  | ⟨k, s, m, a, t, c⟩, d, x => by rw [eaNd, eaKs c, allB]; unfold gK; simp only [Bool.and_assoc]
theorem eaKs : ∀ (l : List Nd) (d : Int) (x : Bool), eaNds gK d l x = (x && allBs l)
  | [], d, x => by rw [eaNds, allBs, Bool.and_true]
  | n :: l, d, x => by rw [eaNds, eaK n, eaKs l, allBs, Bool.and_assoc]
end
mutual
theorem okK_of : ∀ (n : Nd) (d : Int) (x : Bool), bndNd n → okNd okK gK d n x
  | ⟨k, s, m, a, t, c⟩, d, x, h => by rw [bndNd] at h; rw [okNd]; exact ⟨⟨Nat.le_trans h.1.2.2.1 (by decide), fun x hx => Nat.le_trans (h.1.2.2.2 x hx).2 (by decide)⟩, okKs_of c _ _ h.2⟩
theorem okKs_of : ∀ (l : List Nd) (d : Int) (x : Bool), bndNds l → okNds okK gK d l x
  | [], d, x, _ => by rw [okNds]; trivial
  | n :: l, d, x, h => by rw [bndNds] at h; rw [okNds]; exact ⟨okK_of n _ _ h.1, okKs_of l _ _ h.2⟩
end
mutual
theorem eaL : ∀ (n : Nd) (d : Int) (x : Bool), eaNd gL d n x = (x || lonNd n)
  | ⟨k, s, m, a, t, c⟩, d, x => by rw [eaNd, eaLs c, lonNd]; unfold gL; rw [Bool.or_assoc]
theorem eaLs : ∀ (l : List Nd) (d : Int) (x : Bool), eaNds gL d l x = (x || lonNds l)
  | [], d, x => by rw [eaNds, lonNds, Bool.or_false]
  | n :: l, d, x => by rw [eaNds, eaL n, eaLs l, lonNds, Bool.or_assoc]
end
mutual
theorem okL_of : ∀ (n : Nd) (d : Int) (x : Bool), okNd okL gL d n x
  | ⟨k, s, m, a, t, c⟩, d, x => by rw [okNd]; exact ⟨trivial, okLs_of c _ _⟩
theorem okLs_of : ∀ (l : List Nd) (d : Int) (x : Bool), okNds okL gL d l x
  | [], d, x => by rw [okNds]; trivial
  | n :: l, d, x => by rw [okNds]; exact ⟨okL_of n _ _, okLs_of l _ _⟩
end
theorem ix_neg : ∀ (l : List At) (i : Nat), l.any bigA = false → ixA i l = -1
  | [], _, _ => rfl
  | a :: l, i, h => by
    rw [List.any_cons, Bool.or_eq_false_iff] at h
    rw [ixA, if_neg (by rw [h.1]; decide), ix_neg l _ h.2]
theorem ix_pos : ∀ (l : List At) (i : Nat), l.any bigA = true → 0 ≤ ixA i l
  | [], _, h => by cases h
  | a :: l, i, h => by
    rw [ixA]
    split
    · omega
    · rename_i ha
      rw [List.any_cons, Bool.or_eq_true] at h
      exact ix_pos l _ (h.resolve_left ha)
theorem joinB_drop {l : List Nd} {i : Nat} (h : i + 1 < l.length) : joinB (l.drop i) = ((l[i].kind == 2 && l[i + 1].kind == 2) || joinB (l.drop (i + 1))) := by
  rw [List.drop_eq_getElem_cons (show i < l.length by omega), List.drop_eq_getElem_cons h, joinB]
end Go.Proofs.YtnhipiedjekkpaaGreatDoor.AXP
namespace Go.Proofs.YtnhipiedjekkpaaGreatDoor.AX
open Go AXP
set_option maxRecDepth 100000
theorem leaf_holds : Holds 127 conLeaf := conP_holds fun n => by
  refine fun_meets0 tok0 [] (by kernel_rfl) (by kernel_rfl) fun _ => Eq.mpr (vcLeafF n _) ?_
  have e : ∀ b, leafB n = b → [AV.bool b] = compsOf (.bool (leafB n)) := fun b h => by rw [h]; rfl
  refine ⟨fun h => qfin rfl (e _ ?_) rfl rfl, fun h => qfin rfl (e _ ?_) rfl rfl⟩
  · show (n.1 == 2 || n.1 == 3) = true
    rw [h]; rfl
  · show (n.1 == 2 || n.1 == 3) = (n.1 == 3)
    rw [h]; rfl
theorem rig_holds : Holds 118 conRig := conP_holds fun n => by
  rcases (show ∃ w : Nd, w = n from ⟨_, rfl⟩) with ⟨n, rfl⟩
  refine fun_meets0 (AllH.tok (.cons leaf_holds (by kernel_rfl) (.cons goodP_holds (by kernel_rfl) (.cons opn_holds (by kernel_rfl) .nil)))) [] (by kernel_rfl) (by kernel_rfl) fun hpre => Eq.mpr (vcRigF n _) ?_
  have hb : oBnd n.4 := hpre _ rfl
  simp only [nd_eta]
  have e : ∀ b, rightB n = b → [AV.bool b] = compsOf (.bool (rightB n)) := fun b h => by rw [h]; rfl
  have hn : rightB n = if leafB n = true then n.2 == 0 && eqS n.3 ⟨#[]⟩ && n.4.length == 0 && n.6.length == 0 && goodB n.5 && (!eqS n.5 ⟨#[]⟩ || n.1 == 3) else n.1 == 1 && decide (0 ≤ n.2) && decide (n.2 ≤ 2) && eqS n.5 ⟨#[]⟩ && wrongE n.3 n.4 == 0 := rfl
  have hL : ∀ {α : Type} (l : List α) (b : Bool), ((l.length : Int) == 0) = b → (l.length == 0) = b := fun l b h => by
    rw [← h, Bool.eq_iff_iff, beq_iff_eq, beq_iff_eq]; omega
  refine ⟨fun h => ?_, fun h => ?_⟩
  · rw [if_pos h] at hn
    refine ⟨fun h1 => ⟨fun h2 => ⟨fun h3 => ⟨fun _ => ⟨fun _ => ⟨fun h4 => ⟨fun h5 => ⟨fun h6 => qfin rfl (e _ ?_) rfl rfl, fun h6 => qfin rfl (e _ ?_) rfl rfl⟩, fun h5 => qfin rfl (e _ ?_) rfl rfl⟩, fun h4 => qfin rfl (e _ ?_) rfl rfl⟩⟩⟩, fun h3 => ⟨fun _ => qfin rfl (e _ ?_) rfl rfl⟩⟩, fun h2 => qfin rfl (e _ ?_) rfl rfl⟩, fun h1 => qfin rfl (e _ ?_) rfl rfl⟩
    · rw [hn, h1, h2, hL _ _ h3, hL _ _ h4, h5, h6]; rfl
    · rw [hn, h1, h2, hL _ _ h3, hL _ _ h4, h5, h6]; rfl
    · rw [hn, h1, h2, hL _ _ h3, hL _ _ h4, h5]; rfl
    · rw [hn, h1, h2, hL _ _ h3, hL _ _ h4]; rfl
    · rw [hn, h1, h2, hL _ _ h3]; rfl
    · rw [hn, h1, h2]; rfl
    · rw [hn, h1]; rfl
  · rw [if_neg (by rw [h]; decide)] at hn
    refine ⟨fun h1 => qfin rfl (e _ ?_) rfl rfl, fun h1 => ⟨fun h2 => qfin rfl (e _ ?_) rfl rfl, fun h2 => ⟨fun h3 => qfin rfl (e _ ?_) rfl rfl, fun h3 => ⟨fun h4 => qfin rfl (e _ ?_) rfl rfl, fun h4 => Rq.mk hb (qfin rfl (e _ ?_) rfl rfl)⟩⟩⟩⟩
    · have h1 : (n.1 == 1) = false := by simpa using h1
      rw [hn, h1]; rfl
    · have h2 : decide (0 ≤ n.2) = false := decide_eq_false (by have := of_decide_eq_true h2; omega)
      rw [hn, h2, Bool.and_false]; rfl
    · have h3 : decide (n.2 ≤ 2) = false := decide_eq_false (by have := of_decide_eq_true h3; omega)
      rw [hn, h3, Bool.and_false]; rfl
    · have h4 : eqS n.5 ⟨#[]⟩ = false := by simpa using h4
      rw [hn, h4, Bool.and_false]; rfl
    · have h1 : (n.1 == 1) = true := by simpa using h1
      have h2 : decide (0 ≤ n.2) = true := decide_eq_true (by have := of_decide_eq_false h2; omega)
      have h3 : decide (n.2 ≤ 2) = true := decide_eq_true (by have := of_decide_eq_false h3; omega)
      have h4 : eqS n.5 ⟨#[]⟩ = true := by simpa using h4
      rw [hn, h1, h2, h3, h4]; rfl
theorem joi_sum : SumOK cx0 (LL Tryz.f115 [lsJoi]) Tryz.f115.ntmps (loopAt Tryz.f115 0).1 (loopAt Tryz.f115 0).2 lsJoi := by
  intro vs bs K hs
  unfold lsJoi at hs
  simp only at hs
  split at hs
  case h_2 => exact hs.elim
  rename_i l i
  rcases (show ∃ w : List Nd, w = l from ⟨_, rfl⟩) with ⟨l, rfl⟩
  obtain ⟨rfl, h⟩ := hs
  refine sum_rec (σ := Nat) (fun i => [.row .node l, .int .i64 ((i + 1 : Nat) : Int)]) (fun _ => []) (fun i => (i = 0 ∨ i + 1 ≤ l.length) ∧ joinB (l.drop i) = joinB l) (fun i => l.length - i) ?_ 0 ⟨.inl rfl, rfl⟩
  rintro i ⟨hi, he⟩ R hR
  refine Eq.mpr (vcJoiB l _ _) ⟨fun hm => ⟨fun h1 => ?_, fun h1 => ?_⟩⟩
  · have hlt : i + 1 < l.length := by have := of_decide_eq_true h1; omega
    have ew : IntKind.i64.wrap (((i + 1 : Nat) : Int) - 1) = (i : Int) := by unfold maxSl at hm; rw [wrap_id'] <;> omega
    have e := joinB_drop hlt
    rw [he] at e
    rw [ew, rd_nd (show i < l.length by omega), rd_nd hlt, wrap_succ hlt hm]
    have go : joinB (l.drop (i + 1)) = joinB l → R [.row .node l, .int .i64 ((i + 1 + 1 : Nat) : Int)] [] := fun q => hR (i + 1) ⟨.inr (by omega), q⟩ (by omega)
    refine Rq.mk ⟨by omega, by omega⟩ ⟨fun h2 => Rq.mk ⟨by omega, by omega⟩ ⟨fun h3 => h.yes ?_, fun h3 => go ?_⟩, fun h2 => go ?_⟩
    · have h2 : (l[i].kind == 2) = true := h2
      have h3 : (l[i + 1].kind == 2) = true := h3
      rw [e, h2, h3]; rfl
    · have h3 : (l[i + 1].kind == 2) = false := h3
      rw [e, h3, Bool.and_false, Bool.false_or]
    · have h2 : (l[i].kind == 2) = false := h2
      rw [e, h2, Bool.false_and, Bool.false_or]
  · have hge : l.length ≤ i + 1 := by have := of_decide_eq_false h1; omega
    refine h.no ?_
    rw [← he]
    rcases Nat.lt_or_ge i l.length with q | q
    · rw [List.drop_eq_getElem_cons q, List.drop_of_length_le hge]; rfl
    · rw [List.drop_of_length_le q]; rfl
theorem joi_holds : Holds 115 conJoi := conP_holds fun l => by
  refine fun_meets1 tok0 [] lsJoi (by kernel_rfl) (by kernel_rfl) joi_sum fun _ => Eq.mpr (vcJoiF l _) ?_
  have e : ∀ b, joinB l = b → [AV.bool b] = compsOf (.bool (joinB l)) := fun b h => by rw [h]; rfl
  exact Rq.mk rfl ⟨fun h => qfin rfl (e _ h) rfl rfl, fun h => qfin rfl (e _ h) rfl rfl⟩
theorem big_holds : Holds 131 conBig := conP_holds fun a => by
  refine fun_meets0 tok0 [] (by kernel_rfl) (by kernel_rfl) fun _ => Eq.mpr (vcBigF a _) ?_
  exact ⟨fun _ => qfin rfl rfl rfl rfl⟩
theorem idx_sum : SumOK cxIdx (LL Tryz.f122 [lsIdx]) Tryz.f122.ntmps (loopAt Tryz.f122 0).1 (loopAt Tryz.f122 0).2 lsIdx := by
  intro vs bs K hs
  unfold lsIdx at hs
  simp only at hs
  split at hs
  case h_2 => exact hs.elim
  rename_i l f m i
  rcases (show ∃ w : List At, w = l from ⟨_, rfl⟩) with ⟨l, rfl⟩
  obtain ⟨⟨rfl, rfl, rfl, hm⟩, h⟩ := hs
  refine sum_rec (σ := Nat) (fun i => [.row .attr l, .fn 131 [], .int .i64 l.length, .int .i64 (i : Nat)]) (fun _ => []) (fun i => i ≤ l.length ∧ (l.drop i).any bigA = l.any bigA ∧ ixA i (l.drop i) = ixA 0 l) (fun i => l.length - i) ?_ 0 ⟨Nat.zero_le _, rfl, rfl⟩
  rintro i ⟨hi, ha, he⟩ R hR
  refine Eq.mpr (vcIdxB l l.length i _) ⟨fun h1 => ?_, fun h1 => ?_⟩
  · have hlt : i < l.length := by have := of_decide_eq_true h1; omega
    rw [rd_atA hlt]
    rw [List.drop_eq_getElem_cons hlt, List.any_cons] at ha
    rw [List.drop_eq_getElem_cons hlt, ixA] at he
    refine Rq.mk ⟨by omega, by omega⟩ ⟨fun h2 => ?_, fun h2 => ?_⟩
    · have h2 : bigA l[i] = true := h2
      rw [if_pos h2] at he
      rw [h2, Bool.true_or] at ha
      rw [he]
      exact h.yes ha.symm
    · have h2 : bigA l[i] = false := h2
      rw [h2, Bool.false_or] at ha
      rw [if_neg (by rw [h2]; decide)] at he
      rw [wrap_succ hlt hm]
      exact hR (i + 1) ⟨hlt, ha, he⟩ (by omega)
  · have hge : l.length ≤ i := by have := of_decide_eq_false h1; omega
    rw [List.drop_of_length_le hge] at ha
    exact h.no ha.symm
theorem idx_holds : Holds 122 conIdx := conP_holds fun l _ => by
  rcases (show ∃ w : List At, w = l from ⟨_, rfl⟩) with ⟨l, rfl⟩
  refine fun_meets1 (AllH.tok (.cons big_holds (by kernel_rfl) .nil)) [] lsIdx (by kernel_rfl) (by kernel_rfl) idx_sum fun _ => Eq.mpr (vcIdxF l _) ?_
  refine ⟨fun hm => Rq.mk ⟨rfl, rfl, rfl, hm⟩ ⟨fun h => qfin rfl rfl rfl rfl, fun h => qfin rfl ?_ rfl rfl⟩⟩
  show _ = [AV.int .i64 (ixA 0 l)]
  rw [ix_neg l 0 h]
theorem cF_holds : Holds 100 conCF := conP_holds fun l _ => by
  rcases (show ∃ w : List At, w = l from ⟨_, rfl⟩) with ⟨l, rfl⟩
  refine fun_meets0 (AllH.tok (.cons idx_holds (by kernel_rfl) .nil)) [] (by kernel_rfl) (by kernel_rfl) fun _ => Eq.mpr (vcCFF l _) ?_
  refine qfin rfl ?_ rfl rfl
  show _ = [AV.bool (l.any bigA)]
  cases h : l.any bigA with
  | true => rw [decide_eq_true (show ixA 0 l ≥ 0 from ix_pos l 0 h)]
  | false => rw [ix_neg l 0 h]; rfl
theorem c1_holds : Holds 125 conC1 := by
  intro args hp ans hc
  unfold conC1 at hc
  split at hc
  case h_2 => cases hc
  rename_i c d x
  simp only [Option.bind_eq_some_iff] at hc
  obtain ⟨n, hx, hc⟩ := hc
  injection hc with hc
  subst hc
  refine Meets.weaken (args' := [.agg (nodeL n), .int .i64 d, .ptr 0 0]) (.cons (toNd_le hx) (.cons (.refl _) (.cons (.refl _) .nil))) ?_
  refine fun_meets0 tok0 [] (by kernel_rfl) (by kernel_rfl) fun hpre => Eq.mpr (vcC1F n d x _) ?_
  obtain ⟨h1, h2⟩ : okC n d x := hpre _ rfl
  refine qfin rfl rfl ?_ rfl
  have : IntKind.i64.wrap (x + 1) = x + 1 := by unfold maxSl at h2; rw [wrap_id'] <;> omega
  rw [this]; rfl
theorem d1_holds : Holds 126 conD1 := by
  intro args hp ans hc
  unfold conD1 at hc
  split at hc
  case h_2 => cases hc
  rename_i c d x
  simp only [Option.bind_eq_some_iff] at hc
  obtain ⟨n, hx, hc⟩ := hc
  injection hc with hc
  subst hc
  refine Meets.weaken (args' := [.agg (nodeL n), .int .i64 d, .ptr 0 0]) (.cons (toNd_le hx) (.cons (.refl _) (.cons (.refl _) .nil))) ?_
  refine fun_meets0 (AllH.tok (.cons leaf_holds (by kernel_rfl) .nil)) [] (by kernel_rfl) (by kernel_rfl) fun hpre => Eq.mpr (vcD1F n d x _) ?_
  simp only [nd_eta]
  refine ⟨fun h => qfin rfl rfl ?_ rfl, fun h => qfin rfl rfl ?_ rfl⟩
  · have h : leafB n = false := by simpa using h
    show _ = [Blk.box [AV.int .i64 (gD n d x)]]
    unfold gD; rw [if_neg (show ¬ leafB n = true by rw [h]; decide)]
  · have h : leafB n = true := by simpa using h
    show _ = [Blk.box [AV.int .i64 (gD n d x)]]
    unfold gD; rw [if_pos h]
theorem k1_holds : Holds 117 conK1 := by
  intro args hp ans hc
  unfold conK1 at hc
  split at hc
  case h_2 => cases hc
  rename_i c d x
  simp only [Option.bind_eq_some_iff] at hc
  obtain ⟨n, hx, hc⟩ := hc
  injection hc with hc
  subst hc
  refine Meets.weaken (args' := [.agg (nodeL n), .int .i64 d, .ptr 0 0]) (.cons (toNd_le hx) (.cons (.refl _) (.cons (.refl _) .nil))) ?_
  refine fun_meets0 (AllH.tok (.cons rig_holds (by kernel_rfl) (.cons joi_holds (by kernel_rfl) .nil))) [] (by kernel_rfl) (by kernel_rfl) fun hpre => Eq.mpr (vcK1F n d x _) ?_
  have hb : oBnd n.4 := hpre _ rfl
  simp only [nd_eta]
  have e : ∀ b, gK n d x = b → [Blk.box [AV.bool b]] = [Blk.box [AV.bool (gK n d x)]] := fun b h => by rw [h]
  refine ⟨fun h => Rq.mk hb ⟨fun h1 => qfin rfl rfl (e _ ?_) rfl, fun h1 => qfin rfl rfl (e _ ?_) rfl⟩, fun h => qfin rfl rfl (e _ ?_) rfl⟩
  · unfold gK; rw [h, h1]; rfl
  · unfold gK; rw [h, h1]; rfl
  · unfold gK; rw [h]; rfl
theorem l1_holds : Holds 130 conL1 := by
  intro args hp ans hc
  unfold conL1 at hc
  split at hc
  case h_2 => cases hc
  rename_i c d x
  simp only [Option.bind_eq_some_iff] at hc
  obtain ⟨n, hx, hc⟩ := hc
  injection hc with hc
  subst hc
  refine Meets.weaken (args' := [.agg (nodeL n), .int .i64 d, .ptr 0 0]) (.cons (toNd_le hx) (.cons (.refl _) (.cons (.refl _) .nil))) ?_
  refine fun_meets0 (AllH.tok (.cons cF_holds (by kernel_rfl) .nil)) [] (by kernel_rfl) (by kernel_rfl) fun hpre => Eq.mpr (vcL1F n d x _) ?_
  have e : ∀ b, gL n d x = b → [Blk.box [AV.bool b]] = [Blk.box [AV.bool (gL n d x)]] := fun b h => by rw [h]
  refine ⟨fun h => qfin rfl rfl (e _ ?_) rfl, fun h => ⟨fun h1 => ⟨fun _ => qfin rfl rfl (e _ ?_) rfl⟩, fun h1 => ⟨fun _ => qfin rfl rfl (e _ ?_) rfl⟩⟩⟩
  · unfold gL; rw [h]; rfl
  · have h1 : decide ((n.text.size : Int) > 65536) = true := h1
    unfold gL longN; rw [h, h1]; rfl
  · have h1 : decide ((n.text.size : Int) > 65536) = false := h1
    unfold gL longN; rw [h, h1]; rfl
theorem eC_sum (k : Nat) : SumOK (cxEC k) (LL Tryz.f116 [lsEC k]) Tryz.f116.ntmps (loopAt Tryz.f116 0).1 (loopAt Tryz.f116 0).2 (lsEC k) := by
  intro vs bs K hs
  unfold lsEC at hs
  simp only at hs
  split at hs
  case h_2 => exact hs.elim
  rename_i d f l m i s
  obtain ⟨⟨rfl, rfl, rfl, hk, h0, hn, hok⟩, h⟩ := hs
  rcases (show ∃ w : List Nd, w = l from ⟨_, rfl⟩) with ⟨l, rfl⟩
  have hlen := cnt_len l
  have hl : l.length ≤ maxSl := by omega
  refine sum_rec (σ := Nat × Int) (fun s => [.int .i64 d, .fn 125 [.ptr 0 0], .row .node l, .int .i64 l.length, .int .i64 (s.1 : Nat)]) (fun s => [.box [.int .i64 s.2]]) (fun q => q.1 ≤ l.length ∧ okNds okC gC d (l.drop q.1) q.2 ∧ eaNds gC d (l.drop q.1) q.2 = eaNds gC d l s) (fun s => l.length - s.1) ?_ (0, s) ⟨Nat.zero_le _, hok, rfl⟩
  rintro ⟨i, v⟩ ⟨hi, hv, he⟩ R hR
  dsimp only at hi hv he hR ⊢
  refine Eq.mpr (vcECB k l d l.length i v _) ⟨fun h1 => ?_, fun h1 => ?_⟩
  · have h1 : (i : Int) < (l.length : Int) := of_decide_eq_true h1
    have hi : i < l.length := by omega
    rw [List.drop_eq_getElem_cons hi, okNds, okNd_eq, eaNd_eq] at hv
    rw [List.drop_eq_getElem_cons hi, eaNds, eaNd_eq] at he
    have e3 := cnt_mem hi
    rw [cntNd_eq] at e3
    have ew : IntKind.i64.wrap (d + 1) = d + 1 := by unfold maxSl at hn; rw [wrap_id'] <;> omega
    rw [rd_nd hi, wrap_succ hi hl]
    simp only [nd_eta]
    rw [ew]
    exact ⟨⟨by omega, h1⟩, ⟨hv.1.1, ⟨⟨by omega, by omega, by omega, hv.1.2⟩, hR (i + 1, eaNds gC (d + 1) l[i].kids (gC l[i] d v)) ⟨hi, hv.2, he⟩ (by dsimp only; omega)⟩⟩⟩
  · have h1 : ¬ (i : Int) < (l.length : Int) := of_decide_eq_false h1
    rw [List.drop_of_length_le (by omega), eaNds] at he
    rw [he]
    exact h
theorem eC_lt : ∀ k, Holds 116 (conECLt k)
  | 0 => by
    intro args hp ans hc
    unfold conECLt at hc
    split at hc
    case h_2 => cases hc
    split at hc
    case h_2 => cases hc
    simp only [Option.bind_eq_some_iff] at hc
    obtain ⟨a, hx, hc⟩ := hc
    injection hc with hc
    subst hc
    intro F I w vals hH hv hpre
    exact absurd (hpre _ rfl).1 (Nat.not_lt_zero _)
  | k + 1 => by
    intro args hp ans hc
    unfold conECLt at hc
    split at hc
    case h_2 => cases hc
    rename_i x d f s
    split at hc
    case h_2 => cases hc
    rename_i hf
    have hf := Nat.eq_of_beq_eq_true hf
    subst hf
    simp only [Option.bind_eq_some_iff] at hc
    obtain ⟨l, hx, hc⟩ := hc
    injection hc with hc
    subst hc
    refine Meets.weaken (args' := [.row .node l, .int .i64 d, .fn 125 [.ptr 0 0]]) (.cons (rowOf_le hx) (.cons (.refl _) (.cons (.refl _) .nil))) ?_
    refine fun_meets1S (AllH.tok (.cons c1_holds (by kernel_rfl) (.cons (eC_lt k) (by kernel_rfl) .nil))) [.cap 2 0] [] (lsEC k) (by kernel_rfl) (by kernel_rfl) (eC_sum k) fun hpre => Eq.mpr (vcECF k l d s _) ?_
    obtain ⟨h1, h2, h3, h4⟩ := hpre _ rfl
    exact ⟨fun _ => ⟨⟨rfl, rfl, rfl, h1, h2, h3, h4⟩, qfin rfl rfl rfl rfl⟩⟩
theorem eC_holds : Holds 116 conEC := by
  intro args hp ans hc
  unfold conEC at hc
  split at hc
  case h_2 => cases hc
  rename_i x d f s
  split at hc
  case h_2 => cases hc
  rename_i hf
  have hf := Nat.eq_of_beq_eq_true hf
  subst hf
  simp only [Option.bind_eq_some_iff] at hc
  obtain ⟨l, hx, hc⟩ := hc
  injection hc with hc
  subst hc
  rcases (show ∃ w : List Nd, w = l from ⟨_, rfl⟩) with ⟨l, rfl⟩
  have := eC_lt (cntNds l + 1) [x, .int .i64 d, .fn 125 [.ptr 0 0]] [.box [.int .i64 s]] { pre := some (cntNds l < cntNds l + 1 ∧ 0 ≤ d ∧ d + cntNds l ≤ maxSl ∧ okNds okC gC d l s), res := .tup [], hp := [.box [.int .i64 (eaNds gC d l s)]] } (by unfold conECLt; simp only [hx, Option.bind_some])
  exact fun F I w vals hH hv hpre => this F I w vals hH hv (fun p hp => by injection hp with hp; subst hp; exact ⟨Nat.lt_succ_self _, hpre _ rfl⟩)
theorem eD_sum (k : Nat) : SumOK (cxED k) (LL Tryz.f116 [lsED k]) Tryz.f116.ntmps (loopAt Tryz.f116 0).1 (loopAt Tryz.f116 0).2 (lsED k) := by
  intro vs bs K hs
  unfold lsED at hs
  simp only at hs
  split at hs
  case h_2 => exact hs.elim
  rename_i d f l m i s
  obtain ⟨⟨rfl, rfl, rfl, hk, h0, hn, hok⟩, h⟩ := hs
  rcases (show ∃ w : List Nd, w = l from ⟨_, rfl⟩) with ⟨l, rfl⟩
  have hlen := cnt_len l
  have hl : l.length ≤ maxSl := by omega
  refine sum_rec (σ := Nat × Int) (fun s => [.int .i64 d, .fn 126 [.ptr 0 0], .row .node l, .int .i64 l.length, .int .i64 (s.1 : Nat)]) (fun s => [.box [.int .i64 s.2]]) (fun q => q.1 ≤ l.length ∧ okNds okD gD d (l.drop q.1) q.2 ∧ eaNds gD d (l.drop q.1) q.2 = eaNds gD d l s) (fun s => l.length - s.1) ?_ (0, s) ⟨Nat.zero_le _, hok, rfl⟩
  rintro ⟨i, v⟩ ⟨hi, hv, he⟩ R hR
  dsimp only at hi hv he hR ⊢
  refine Eq.mpr (vcEDB k l d l.length i v _) ⟨fun h1 => ?_, fun h1 => ?_⟩
  · have h1 : (i : Int) < (l.length : Int) := of_decide_eq_true h1
    have hi : i < l.length := by omega
    rw [List.drop_eq_getElem_cons hi, okNds, okNd_eq, eaNd_eq] at hv
    rw [List.drop_eq_getElem_cons hi, eaNds, eaNd_eq] at he
    have e3 := cnt_mem hi
    rw [cntNd_eq] at e3
    have ew : IntKind.i64.wrap (d + 1) = d + 1 := by unfold maxSl at hn; rw [wrap_id'] <;> omega
    rw [rd_nd hi, wrap_succ hi hl]
    simp only [nd_eta]
    rw [ew]
    exact ⟨⟨by omega, h1⟩, ⟨hv.1.1, ⟨⟨by omega, by omega, by omega, hv.1.2⟩, hR (i + 1, eaNds gD (d + 1) l[i].kids (gD l[i] d v)) ⟨hi, hv.2, he⟩ (by dsimp only; omega)⟩⟩⟩
  · have h1 : ¬ (i : Int) < (l.length : Int) := of_decide_eq_false h1
    rw [List.drop_of_length_le (by omega), eaNds] at he
    rw [he]
    exact h
theorem eD_lt : ∀ k, Holds 116 (conEDLt k)
  | 0 => by
    intro args hp ans hc
    unfold conEDLt at hc
    split at hc
    case h_2 => cases hc
    split at hc
    case h_2 => cases hc
    simp only [Option.bind_eq_some_iff] at hc
    obtain ⟨a, hx, hc⟩ := hc
    injection hc with hc
    subst hc
    intro F I w vals hH hv hpre
    exact absurd (hpre _ rfl).1 (Nat.not_lt_zero _)
  | k + 1 => by
    intro args hp ans hc
    unfold conEDLt at hc
    split at hc
    case h_2 => cases hc
    rename_i x d f s
    split at hc
    case h_2 => cases hc
    rename_i hf
    have hf := Nat.eq_of_beq_eq_true hf
    subst hf
    simp only [Option.bind_eq_some_iff] at hc
    obtain ⟨l, hx, hc⟩ := hc
    injection hc with hc
    subst hc
    refine Meets.weaken (args' := [.row .node l, .int .i64 d, .fn 126 [.ptr 0 0]]) (.cons (rowOf_le hx) (.cons (.refl _) (.cons (.refl _) .nil))) ?_
    refine fun_meets1S (AllH.tok (.cons d1_holds (by kernel_rfl) (.cons (eD_lt k) (by kernel_rfl) .nil))) [.cap 2 0] [] (lsED k) (by kernel_rfl) (by kernel_rfl) (eD_sum k) fun hpre => Eq.mpr (vcEDF k l d s _) ?_
    obtain ⟨h1, h2, h3, h4⟩ := hpre _ rfl
    exact ⟨fun _ => ⟨⟨rfl, rfl, rfl, h1, h2, h3, h4⟩, qfin rfl rfl rfl rfl⟩⟩
theorem eD_holds : Holds 116 conED := by
  intro args hp ans hc
  unfold conED at hc
  split at hc
  case h_2 => cases hc
  rename_i x d f s
  split at hc
  case h_2 => cases hc
  rename_i hf
  have hf := Nat.eq_of_beq_eq_true hf
  subst hf
  simp only [Option.bind_eq_some_iff] at hc
  obtain ⟨l, hx, hc⟩ := hc
  injection hc with hc
  subst hc
  rcases (show ∃ w : List Nd, w = l from ⟨_, rfl⟩) with ⟨l, rfl⟩
  have := eD_lt (cntNds l + 1) [x, .int .i64 d, .fn 126 [.ptr 0 0]] [.box [.int .i64 s]] { pre := some (cntNds l < cntNds l + 1 ∧ 0 ≤ d ∧ d + cntNds l ≤ maxSl ∧ okNds okD gD d l s), res := .tup [], hp := [.box [.int .i64 (eaNds gD d l s)]] } (by unfold conEDLt; simp only [hx, Option.bind_some])
  exact fun F I w vals hH hv hpre => this F I w vals hH hv (fun p hp => by injection hp with hp; subst hp; exact ⟨Nat.lt_succ_self _, hpre _ rfl⟩)
theorem eK_sum (k : Nat) : SumOK (cxEK k) (LL Tryz.f116 [lsEK k]) Tryz.f116.ntmps (loopAt Tryz.f116 0).1 (loopAt Tryz.f116 0).2 (lsEK k) := by
  intro vs bs K hs
  unfold lsEK at hs
  simp only at hs
  split at hs
  case h_2 => exact hs.elim
  rename_i d f l m i s
  obtain ⟨⟨rfl, rfl, rfl, hk, h0, hn, hok⟩, h⟩ := hs
  rcases (show ∃ w : List Nd, w = l from ⟨_, rfl⟩) with ⟨l, rfl⟩
  have hlen := cnt_len l
  have hl : l.length ≤ maxSl := by omega
  refine sum_rec (σ := Nat × Bool) (fun s => [.int .i64 d, .fn 117 [.ptr 0 0], .row .node l, .int .i64 l.length, .int .i64 (s.1 : Nat)]) (fun s => [.box [.bool s.2]]) (fun q => q.1 ≤ l.length ∧ okNds okK gK d (l.drop q.1) q.2 ∧ eaNds gK d (l.drop q.1) q.2 = eaNds gK d l s) (fun s => l.length - s.1) ?_ (0, s) ⟨Nat.zero_le _, hok, rfl⟩
  rintro ⟨i, v⟩ ⟨hi, hv, he⟩ R hR
  dsimp only at hi hv he hR ⊢
  refine Eq.mpr (vcEKB k l d l.length i v _) ⟨fun h1 => ?_, fun h1 => ?_⟩
  · have h1 : (i : Int) < (l.length : Int) := of_decide_eq_true h1
    have hi : i < l.length := by omega
    rw [List.drop_eq_getElem_cons hi, okNds, okNd_eq, eaNd_eq] at hv
    rw [List.drop_eq_getElem_cons hi, eaNds, eaNd_eq] at he
    have e3 := cnt_mem hi
    rw [cntNd_eq] at e3
    have ew : IntKind.i64.wrap (d + 1) = d + 1 := by unfold maxSl at hn; rw [wrap_id'] <;> omega
    rw [rd_nd hi, wrap_succ hi hl]
    simp only [nd_eta]
    rw [ew]
    exact ⟨⟨by omega, h1⟩, ⟨hv.1.1, ⟨⟨by omega, by omega, by omega, hv.1.2⟩, hR (i + 1, eaNds gK (d + 1) l[i].kids (gK l[i] d v)) ⟨hi, hv.2, he⟩ (by dsimp only; omega)⟩⟩⟩
  · have h1 : ¬ (i : Int) < (l.length : Int) := of_decide_eq_false h1
    rw [List.drop_of_length_le (by omega), eaNds] at he
    rw [he]
    exact h
theorem eK_lt : ∀ k, Holds 116 (conEKLt k)
  | 0 => by
    intro args hp ans hc
    unfold conEKLt at hc
    split at hc
    case h_2 => cases hc
    split at hc
    case h_2 => cases hc
    simp only [Option.bind_eq_some_iff] at hc
    obtain ⟨a, hx, hc⟩ := hc
    injection hc with hc
    subst hc
    intro F I w vals hH hv hpre
    exact absurd (hpre _ rfl).1 (Nat.not_lt_zero _)
  | k + 1 => by
    intro args hp ans hc
    unfold conEKLt at hc
    split at hc
    case h_2 => cases hc
    rename_i x d f s
    split at hc
    case h_2 => cases hc
    rename_i hf
    have hf := Nat.eq_of_beq_eq_true hf
    subst hf
    simp only [Option.bind_eq_some_iff] at hc
    obtain ⟨l, hx, hc⟩ := hc
    injection hc with hc
    subst hc
    refine Meets.weaken (args' := [.row .node l, .int .i64 d, .fn 117 [.ptr 0 0]]) (.cons (rowOf_le hx) (.cons (.refl _) (.cons (.refl _) .nil))) ?_
    refine fun_meets1S (AllH.tok (.cons k1_holds (by kernel_rfl) (.cons (eK_lt k) (by kernel_rfl) .nil))) [.cap 2 0] [] (lsEK k) (by kernel_rfl) (by kernel_rfl) (eK_sum k) fun hpre => Eq.mpr (vcEKF k l d s _) ?_
    obtain ⟨h1, h2, h3, h4⟩ := hpre _ rfl
    exact ⟨fun _ => ⟨⟨rfl, rfl, rfl, h1, h2, h3, h4⟩, qfin rfl rfl rfl rfl⟩⟩
theorem eK_holds : Holds 116 conEK := by
  intro args hp ans hc
  unfold conEK at hc
  split at hc
  case h_2 => cases hc
  rename_i x d f s
  split at hc
  case h_2 => cases hc
  rename_i hf
  have hf := Nat.eq_of_beq_eq_true hf
  subst hf
  simp only [Option.bind_eq_some_iff] at hc
  obtain ⟨l, hx, hc⟩ := hc
  injection hc with hc
  subst hc
  rcases (show ∃ w : List Nd, w = l from ⟨_, rfl⟩) with ⟨l, rfl⟩
  have := eK_lt (cntNds l + 1) [x, .int .i64 d, .fn 117 [.ptr 0 0]] [.box [.bool s]] { pre := some (cntNds l < cntNds l + 1 ∧ 0 ≤ d ∧ d + cntNds l ≤ maxSl ∧ okNds okK gK d l s), res := .tup [], hp := [.box [.bool (eaNds gK d l s)]] } (by unfold conEKLt; simp only [hx, Option.bind_some])
  exact fun F I w vals hH hv hpre => this F I w vals hH hv (fun p hp => by injection hp with hp; subst hp; exact ⟨Nat.lt_succ_self _, hpre _ rfl⟩)
theorem eL_sum (k : Nat) : SumOK (cxEL k) (LL Tryz.f116 [lsEL k]) Tryz.f116.ntmps (loopAt Tryz.f116 0).1 (loopAt Tryz.f116 0).2 (lsEL k) := by
  intro vs bs K hs
  unfold lsEL at hs
  simp only at hs
  split at hs
  case h_2 => exact hs.elim
  rename_i d f l m i s
  obtain ⟨⟨rfl, rfl, rfl, hk, h0, hn, hok⟩, h⟩ := hs
  rcases (show ∃ w : List Nd, w = l from ⟨_, rfl⟩) with ⟨l, rfl⟩
  have hlen := cnt_len l
  have hl : l.length ≤ maxSl := by omega
  refine sum_rec (σ := Nat × Bool) (fun s => [.int .i64 d, .fn 130 [.ptr 0 0], .row .node l, .int .i64 l.length, .int .i64 (s.1 : Nat)]) (fun s => [.box [.bool s.2]]) (fun q => q.1 ≤ l.length ∧ okNds okL gL d (l.drop q.1) q.2 ∧ eaNds gL d (l.drop q.1) q.2 = eaNds gL d l s) (fun s => l.length - s.1) ?_ (0, s) ⟨Nat.zero_le _, hok, rfl⟩
  rintro ⟨i, v⟩ ⟨hi, hv, he⟩ R hR
  dsimp only at hi hv he hR ⊢
  refine Eq.mpr (vcELB k l d l.length i v _) ⟨fun h1 => ?_, fun h1 => ?_⟩
  · have h1 : (i : Int) < (l.length : Int) := of_decide_eq_true h1
    have hi : i < l.length := by omega
    rw [List.drop_eq_getElem_cons hi, okNds, okNd_eq, eaNd_eq] at hv
    rw [List.drop_eq_getElem_cons hi, eaNds, eaNd_eq] at he
    have e3 := cnt_mem hi
    rw [cntNd_eq] at e3
    have ew : IntKind.i64.wrap (d + 1) = d + 1 := by unfold maxSl at hn; rw [wrap_id'] <;> omega
    rw [rd_nd hi, wrap_succ hi hl]
    simp only [nd_eta]
    rw [ew]
    exact ⟨⟨by omega, h1⟩, ⟨hv.1.1, ⟨⟨by omega, by omega, by omega, hv.1.2⟩, hR (i + 1, eaNds gL (d + 1) l[i].kids (gL l[i] d v)) ⟨hi, hv.2, he⟩ (by dsimp only; omega)⟩⟩⟩
  · have h1 : ¬ (i : Int) < (l.length : Int) := of_decide_eq_false h1
    rw [List.drop_of_length_le (by omega), eaNds] at he
    rw [he]
    exact h
theorem eL_lt : ∀ k, Holds 116 (conELLt k)
  | 0 => by
    intro args hp ans hc
    unfold conELLt at hc
    split at hc
    case h_2 => cases hc
    split at hc
    case h_2 => cases hc
    simp only [Option.bind_eq_some_iff] at hc
    obtain ⟨a, hx, hc⟩ := hc
    injection hc with hc
    subst hc
    intro F I w vals hH hv hpre
    exact absurd (hpre _ rfl).1 (Nat.not_lt_zero _)
  | k + 1 => by
    intro args hp ans hc
    unfold conELLt at hc
    split at hc
    case h_2 => cases hc
    rename_i x d f s
    split at hc
    case h_2 => cases hc
    rename_i hf
    have hf := Nat.eq_of_beq_eq_true hf
    subst hf
    simp only [Option.bind_eq_some_iff] at hc
    obtain ⟨l, hx, hc⟩ := hc
    injection hc with hc
    subst hc
    refine Meets.weaken (args' := [.row .node l, .int .i64 d, .fn 130 [.ptr 0 0]]) (.cons (rowOf_le hx) (.cons (.refl _) (.cons (.refl _) .nil))) ?_
    refine fun_meets1S (AllH.tok (.cons l1_holds (by kernel_rfl) (.cons (eL_lt k) (by kernel_rfl) .nil))) [.cap 2 0] [] (lsEL k) (by kernel_rfl) (by kernel_rfl) (eL_sum k) fun hpre => Eq.mpr (vcELF k l d s _) ?_
    obtain ⟨h1, h2, h3, h4⟩ := hpre _ rfl
    exact ⟨fun _ => ⟨⟨rfl, rfl, rfl, h1, h2, h3, h4⟩, qfin rfl rfl rfl rfl⟩⟩
theorem eL_holds : Holds 116 conEL := by
  intro args hp ans hc
  unfold conEL at hc
  split at hc
  case h_2 => cases hc
  rename_i x d f s
  split at hc
  case h_2 => cases hc
  rename_i hf
  have hf := Nat.eq_of_beq_eq_true hf
  subst hf
  simp only [Option.bind_eq_some_iff] at hc
  obtain ⟨l, hx, hc⟩ := hc
  injection hc with hc
  subst hc
  rcases (show ∃ w : List Nd, w = l from ⟨_, rfl⟩) with ⟨l, rfl⟩
  have := eL_lt (cntNds l + 1) [x, .int .i64 d, .fn 130 [.ptr 0 0]] [.box [.bool s]] { pre := some (cntNds l < cntNds l + 1 ∧ 0 ≤ d ∧ d + cntNds l ≤ maxSl ∧ okNds okL gL d l s), res := .tup [], hp := [.box [.bool (eaNds gL d l s)]] } (by unfold conELLt; simp only [hx, Option.bind_some])
  exact fun F I w vals hH hv hpre => this F I w vals hH hv (fun p hp => by injection hp with hp; subst hp; exact ⟨Nat.lt_succ_self _, hpre _ rfl⟩)
theorem cou_holds : Holds 113 conCou := conP_holds fun l => by
  rcases (show ∃ w : List Nd, w = l from ⟨_, rfl⟩) with ⟨l, rfl⟩
  refine fun_meets0 (AllH.tok (.cons eC_holds (by kernel_rfl) .nil)) [] (by kernel_rfl) (by kernel_rfl) fun hpre => Eq.mpr (vcCouF l _) ?_
  have h : cntNds l < 1000000 := hpre _ rfl
  have hmx : maxSl = 140737488355328 := rfl
  refine Rq.mk ⟨by decide, by omega, okCs_of l _ _ (Int.le_refl _) (by omega)⟩ (qfin rfl ?_ rfl rfl)
  rw [eaCs, Int.zero_add]; rfl
theorem dep_holds : Holds 114 conDep := conP_holds fun l => by
  rcases (show ∃ w : List Nd, w = l from ⟨_, rfl⟩) with ⟨l, rfl⟩
  refine fun_meets0 (AllH.tok (.cons eD_holds (by kernel_rfl) .nil)) [] (by kernel_rfl) (by kernel_rfl) fun hpre => Eq.mpr (vcDepF l _) ?_
  have h : cntNds l < 1000000 := hpre _ rfl
  have hmx : maxSl = 140737488355328 := rfl
  refine Rq.mk ⟨by decide, by omega, okDs_of l _ _⟩ (qfin rfl ?_ rfl rfl)
  rw [eaDs]; rfl
theorem chk_holds : Holds 97 conChk := conP_holds fun l => by
  rcases (show ∃ w : List Nd, w = l from ⟨_, rfl⟩) with ⟨l, rfl⟩
  refine fun_meets0 (AllH.tok (.cons cou_holds (by kernel_rfl) (.cons dep_holds (by kernel_rfl) (.cons joi_holds (by kernel_rfl) (.cons eK_holds (by kernel_rfl) .nil))))) [] (by kernel_rfl) (by kernel_rfl) fun hpre => Eq.mpr (vcChkF l _) ?_
  obtain ⟨h, hb⟩ : fineNds l := hpre _ rfl
  have hmx : maxSl = 140737488355328 := rfl
  have e : ∀ b, checkS l = b → [AV.int .i64 b] = compsOf (.int .i64 (checkS l)) := fun b h => by rw [h]; rfl
  rw [eaKs]
  refine Rq.mk h ⟨fun h1 => qfin rfl (e _ ?_) rfl rfl, fun h1 => Rq.mk h ⟨fun h2 => qfin rfl (e _ ?_) rfl rfl, fun h2 => Rq.mk ⟨by decide, by omega, okKs_of l _ _ hb⟩ ⟨fun h3 => qfin rfl (e _ ?_) rfl rfl, fun h3 => qfin rfl (e _ ?_) rfl rfl⟩⟩⟩
  · unfold checkS; rw [h1]; rfl
  · unfold checkS; rw [h2, Bool.or_true]; rfl
  · unfold checkS
    have h3 : (!joinB l && allBs l) = false := by rw [← Bool.not_eq_true']; exact h3
    rw [h1, h2, h3]; rfl
  · unfold checkS
    have h3 : (!joinB l && allBs l) = true := by rw [← Bool.not_eq_false']; exact h3
    rw [h1, h2, h3]; rfl
theorem too_holds : Holds 119 conToo := conP_holds fun n => by
  rcases (show ∃ w : Nd, w = n from ⟨_, rfl⟩) with ⟨n, rfl⟩
  refine fun_meets0 (AllH.tok (.cons eL_holds (by kernel_rfl) .nil)) [] (by kernel_rfl) (by kernel_rfl) fun hpre => Eq.mpr (vcTooF n _) ?_
  have h : cntNd n < 1000000 := hpre _ rfl
  have hmx : maxSl = 140737488355328 := rfl
  simp only [nd_eta]
  refine Rq.mk ⟨by decide, by rw [cnt_one]; omega, okLs_of _ _ _⟩ (qfin rfl ?_ rfl rfl)
  rw [eaLs, lonNds, lonNds, Bool.or_false, Bool.false_or]; rfl
end Go.Proofs.YtnhipiedjekkpaaGreatDoor.AX
end
section
namespace Go.Proofs.YtnhipiedjekkpaaGreatDoor.AXP
open Go Go.Proofs.YtnhipiedjekkpaaGreatDoor.AX
def attF (t : ByteArray) : List At → ByteArray
  | [] => t
  | a :: l => attF (t ++ (txtQ a.name ++ txtQ a.value)) l
mutual
def putN (b : ByteArray) : Nd → ByteArray
  | ⟨k, s, m, a, t, c⟩ => if (k == 2 || k == 3) = true then b ++ numS k ++ txtQ t else putG (attF (b ++ numS k ++ (numS s ++ txtQ m ++ numS a.length)) a ++ numS c.length) c
def putG (b : ByteArray) : List Nd → ByteArray
  | [] => b
  | n :: l => putG (putN b n) l
end
def putF (b : ByteArray) (l : List Nd) : ByteArray := putG (b ++ numS l.length) l
def bytE (l : List Nd) : Int := if checkS l = 0 then (if lonNds l = true then 2 else 0) else checkS l
def bytS (l : List Nd) : ByteArray := if bytE l = 0 then putF ⟨#[]⟩ l else ⟨#[]⟩
end Go.Proofs.YtnhipiedjekkpaaGreatDoor.AXP
namespace Go.Proofs.YtnhipiedjekkpaaGreatDoor.AX
open Go AXP
noncomputable def conPutLt (k : Nat) : Con := fun args hp => match args, hp with
  | [.ptr 0 0, x], [.bld t] => (rowOf .node x).bind fun (l : List Nd) => some { pre := some (cntNds l < k ∧ (putF t l).size ≤ maxSl), res := .tup [], hp := [.bld (putF t l)] }
  | _, _ => none
noncomputable def cxPut (k : Nat) : Cx := cxT (tabLook [(132, conTn), (133, conTt), (127, conLeaf), (21, conWrite), (120, conPutLt k)])
def lsPutO (k : Nat) : LS where
  keep := [(0, .as), (13, .as), (14, .as), (15, .as)]
  left := [(0, .as)]
  sum := fun vs bs K => match vs, bs with
    | [.ptr 0 0, .row .node l, .int .i64 m, .int .i64 i], [.bld t] => Rq (m = l.length ∧ i = 0 ∧ cntNds l < k + 1 ∧ l.length ≤ maxSl ∧ (putG t l).size ≤ maxSl) (K (.exit 0) [.ptr 0 0] [.bld (putG t l)])
    | _, _ => False
def lsPutA : LS where
  keep := [(0, .as), (5, .as), (13, .as), (14, .as), (15, .as), (46, .as), (47, .as), (48, .as)]
  left := [(0, .as), (5, .as), (13, .as), (14, .as), (15, .as)]
  sum := fun vs bs K => match vs, bs with
    | [.ptr 0 0, .ptr 1 0, .row .node l, .int .i64 m, .int .i64 j, .row .attr a, .int .i64 q, .int .i64 i], [.bld t, .box [.int .i64 c0, .int .i64 c1, .str c2, .row .attr c3, .str c4, .row .node c5]] => Rq (q = a.length ∧ i = 0 ∧ a.length ≤ maxSl ∧ (attF t a).size ≤ maxSl) (K (.exit 2) [.ptr 0 0, .ptr 1 0, .row .node l, .int .i64 m, .int .i64 j] [.bld (attF t a), .box [.int .i64 c0, .int .i64 c1, .str c2, .row .attr c3, .str c4, .row .node c5]])
    | _, _ => False
noncomputable def conPut : Con := fun args hp => match args, hp with
  | [.ptr 0 0, x], [.bld t] => (rowOf .node x).bind fun (l : List Nd) => some { pre := some ((putF t l).size ≤ maxSl), res := .tup [], hp := [.bld (putF t l)] }
  | _, _ => none
noncomputable def cxByts : Cx := cxT (tabLook [(97, conChk), (119, conToo), (120, conPut), (24, conString)])
def lsByts : LS where
  keep := [(0, .as), (13, .as), (14, .as), (15, .as)]
  left := [(0, .as), (2, .as), (3, .as)]
  sum := fun vs bs K => match vs, bs with
    | [.row .node l, .row .node l', .int .i64 m, .int .i64 i], [] => Rq (l' = l ∧ m = l.length ∧ i = 0 ∧ cntNds l < 1000000) (Br (lonNds l) (K .ret [.row .node l, .str ⟨#[]⟩, .int .i64 2] []) (K (.exit 0) [.row .node l, .any, .any] []))
    | _, _ => False
def conByts : Con := conP [.row .node] fun (l : List Nd) => { pre := some (fineNds l), res := .tup [.str (bytS l), .int .i64 (bytE l)] }
end Go.Proofs.YtnhipiedjekkpaaGreatDoor.AX
end
section
namespace Go.Proofs.YtnhipiedjekkpaaGreatDoor.AX
open Go AXP
set_option maxRecDepth 100000
theorem vcPutA (k : Nat) (n : Nd) (t : ByteArray) (l : List Nd) (a : List At) (m j q i : Int) (K : Ex → List AV → List Blk → Prop) : (bodyA (cxPut k) (LL Tryz.f120 [lsPutO k, lsPutA]) Tryz.f120.ntmps (loopAt Tryz.f120 1).1 (loopAt Tryz.f120 1).2 lsPutA.keep lsPutA.left K [.ptr 0 0, .ptr 1 0, .row .node l, .int .i64 m, .int .i64 j, .row .attr a, .int .i64 q, .int .i64 i] [.bld t, .box (nodeL n)]) = (
Br (decide (i < q))
 (Rq ((0 : Int) ≤ i ∧ i < (↑a.length : Int))
 (Rq ((txtQ (rd Ty.attr a i).1).size + (txtQ (rd Ty.attr a i).2).size ≤ maxSl)
 (Rq (t.size + (txtQ (rd Ty.attr a i).1 ++ txtQ (rd Ty.attr a i).2).size ≤ maxSl)
 (K Ex.norm
 [AV.ptr (0 : Nat) (0 : Nat), AV.ptr ((0 : Nat) + (1 : Nat)) (0 : Nat), AV.row Ty.node l, AV.int IntKind.i64 m,
 AV.int IntKind.i64 j, AV.row Ty.attr a, AV.int IntKind.i64 q,
 AV.int IntKind.i64 (IntKind.i64.wrap (i + (1 : Int)))]
 [Blk.bld (t ++ (txtQ (rd Ty.attr a i).1 ++ txtQ (rd Ty.attr a i).2)),
 Blk.box
 [AV.int IntKind.i64 n.1, AV.int IntKind.i64 n.2, AV.str n.3, AV.row Ty.attr n.4, AV.str n.5,
 AV.row Ty.node n.6]]))))
 (K (Ex.exit (2 : Nat))
 [AV.ptr (0 : Nat) (0 : Nat), AV.ptr ((0 : Nat) + (1 : Nat)) (0 : Nat), AV.row Ty.node l, AV.int IntKind.i64 m,
 AV.int IntKind.i64 j]
 [Blk.bld t,
 Blk.box
 [AV.int IntKind.i64 n.1, AV.int IntKind.i64 n.2, AV.str n.3, AV.row Ty.attr n.4, AV.str n.5,
 AV.row Ty.node n.6]])) := by kernel_rfl
theorem vcPutO (k : Nat) (t : ByteArray) (l : List Nd) (m i : Int) (K : Ex → List AV → List Blk → Prop) : (bodyA (cxPut k) (LL Tryz.f120 [lsPutO k, lsPutA]) Tryz.f120.ntmps (loopAt Tryz.f120 0).1 (loopAt Tryz.f120 0).2 (lsPutO k).keep (lsPutO k).left K [.ptr 0 0, .row .node l, .int .i64 m, .int .i64 i] [.bld t]) = (
Br (decide (i < m))
 (Rq ((0 : Int) ≤ i ∧ i < (↑l.length : Int))
 (Rq (t.size + (numS (rd Ty.node l i).1).size ≤ maxSl)
 (Br
 (leafB
 (Nd.mk (rd Ty.node l i).1 (rd Ty.node l i).2 (rd Ty.node l i).3 (rd Ty.node l i).4 (rd Ty.node l i).5
 (rd Ty.node l i).6))
 (Rq ((t ++ numS (rd Ty.node l i).1).size + (txtQ (rd Ty.node l i).5).size ≤ maxSl)
 (K Ex.norm
 [AV.ptr (0 : Nat) (0 : Nat), AV.row Ty.node l, AV.int IntKind.i64 m,
 AV.int IntKind.i64 (IntKind.i64.wrap (i + (1 : Int)))]
 [Blk.bld (t ++ numS (rd Ty.node l i).1 ++ txtQ (rd Ty.node l i).5)]))
 (Rq ((numS (rd Ty.node l i).2).size + (txtQ (rd Ty.node l i).3).size ≤ maxSl)
 (Rq
 ((numS (rd Ty.node l i).2 ++ txtQ (rd Ty.node l i).3).size +
 (numS (↑(rd Ty.node l i).4.length : Int)).size ≤
 maxSl)
 (Rq
 ((t ++ numS (rd Ty.node l i).1).size +
 (numS (rd Ty.node l i).2 ++ txtQ (rd Ty.node l i).3 ++ numS (↑(rd Ty.node l i).4.length : Int)).size ≤
 maxSl)
 (Gv ((rd Ty.node l i).4.length ≤ maxSl)
 (Gv ((rd Ty.node l i).4.length ≤ maxSl)
 (Rq
 ((↑(rd Ty.node l i).4.length : Int) = (↑(rd Ty.node l i).4.length : Int) ∧
 (0 : Int) = (0 : Int) ∧
 (rd Ty.node l i).4.length ≤ maxSl ∧
 (attF
 (t ++ numS (rd Ty.node l i).1 ++
 (numS (rd Ty.node l i).2 ++ txtQ (rd Ty.node l i).3 ++
 numS (↑(rd Ty.node l i).4.length : Int)))
 (rd Ty.node l i).4).size ≤
 maxSl)
 (Rq
 (cntNds (rd Ty.node l i).6 < k ∧
 (putF
 (attF
 (t ++ numS (rd Ty.node l i).1 ++
 (numS (rd Ty.node l i).2 ++ txtQ (rd Ty.node l i).3 ++
 numS (↑(rd Ty.node l i).4.length : Int)))
 (rd Ty.node l i).4)
 (rd Ty.node l i).6).size ≤
 maxSl)
 (K Ex.norm
 [AV.ptr (0 : Nat) (0 : Nat), AV.row Ty.node l, AV.int IntKind.i64 m,
 AV.int IntKind.i64 (IntKind.i64.wrap (i + (1 : Int)))]
 [Blk.bld
 (putF
 (attF
 (t ++ numS (rd Ty.node l i).1 ++
 (numS (rd Ty.node l i).2 ++ txtQ (rd Ty.node l i).3 ++
 numS (↑(rd Ty.node l i).4.length : Int)))
 (rd Ty.node l i).4)
 (rd Ty.node l i).6)])))))))))))
 (K (Ex.exit (0 : Nat)) [AV.ptr (0 : Nat) (0 : Nat)] [Blk.bld t])) := by kernel_rfl
theorem vcPutF (k : Nat) (t : ByteArray) (l : List Nd) (Q : List AV → List Blk → List Blk → Prop) : (funA (cxPut k) (LL Tryz.f120 [lsPutO k, lsPutA]) Tryz.f120 [.ptr 0 0, .row .node l] [.bld t] [] Q) = (
Rq (t.size + (numS (↑l.length : Int)).size ≤ maxSl)
 (Gv (l.length ≤ maxSl)
 (Gv (l.length ≤ maxSl)
 (Rq
 ((↑l.length : Int) = (↑l.length : Int) ∧
 (0 : Int) = (0 : Int) ∧
 cntNds l < k + (1 : Nat) ∧ l.length ≤ maxSl ∧ (putG (t ++ numS (↑l.length : Int)) l).size ≤ maxSl)
 (Q [] [Blk.bld (putG (t ++ numS (↑l.length : Int)) l)] []))))) := by kernel_rfl
theorem vcBytsB (l : List Nd) (m i : Int) (K : Ex → List AV → List Blk → Prop) : (bodyA cxByts (LL Tryz.f98 [lsByts]) Tryz.f98.ntmps (loopAt Tryz.f98 0).1 (loopAt Tryz.f98 0).2 lsByts.keep lsByts.left K [.row .node l, .row .node l, .int .i64 m, .int .i64 i] []) = (
Br (decide (i < m))
 (Rq ((0 : Int) ≤ i ∧ i < (↑l.length : Int))
 (Rq
 (cntNd
 (Nd.mk (rd Ty.node l i).1 (rd Ty.node l i).2 (rd Ty.node l i).3 (rd Ty.node l i).4 (rd Ty.node l i).5
 (rd Ty.node l i).6) <
 (1000000 : Nat))
 (Br
 (lonNd
 (Nd.mk (rd Ty.node l i).1 (rd Ty.node l i).2 (rd Ty.node l i).3 (rd Ty.node l i).4 (rd Ty.node l i).5
 (rd Ty.node l i).6))
 (K Ex.ret [AV.row Ty.node l, AV.str (ByteArray.mk (Array.mk [])), AV.int IntKind.i64 (2 : Int)] [])
 (K Ex.norm
 [AV.row Ty.node l, AV.row Ty.node l, AV.int IntKind.i64 m,
 AV.int IntKind.i64 (IntKind.i64.wrap (i + (1 : Int)))]
 []))))
 (K (Ex.exit (0 : Nat)) [AV.row Ty.node l, AV.any, AV.any] [])) := by kernel_rfl
theorem vcBytsF (l : List Nd) (Q : List AV → List Blk → List Blk → Prop) : (funA cxByts (LL Tryz.f98 [lsByts]) Tryz.f98 [.row .node l] [] [] Q) = (
Rq (fineNds l)
 (Br (checkS l != (0 : Int)) (Q [AV.str (ByteArray.mk (Array.mk [])), AV.int IntKind.i64 (checkS l)] [] [])
 (Gv (l.length ≤ maxSl)
 (Rq (l = l ∧ (↑l.length : Int) = (↑l.length : Int) ∧ (0 : Int) = (0 : Int) ∧ cntNds l < (1000000 : Nat))
 (Br (lonNds l) (Q [AV.str (ByteArray.mk (Array.mk [])), AV.int IntKind.i64 (2 : Int)] [] [])
 (Rq ((putF (ByteArray.mk (Array.mk [])) l).size ≤ maxSl)
 (Rq ((putF (ByteArray.mk (Array.mk [])) l).size ≤ maxSl)
 (Q [AV.str (putF (ByteArray.mk (Array.mk [])) l), AV.int IntKind.i64 (0 : Int)] [] [])))))))) := by kernel_rfl
end Go.Proofs.YtnhipiedjekkpaaGreatDoor.AX
end
section
namespace Go.Proofs.YtnhipiedjekkpaaGreatDoor.AXP
open Go Go.Proofs.YtnhipiedjekkpaaGreatDoor.AX
theorem attF_mono : ∀ (a : List At) (t : ByteArray), t.size ≤ (attF t a).size
  | [], t => by rw [attF]; exact Nat.le_refl _
  | x :: l, t => by
    rw [attF]
    have := attF_mono l (t ++ (txtQ x.name ++ txtQ x.value))
    rw [ByteArray.size_append] at this; omega
theorem attF_le : ∀ (a : List At) (t : ByteArray), (∀ x ∈ a, x.name.size ≤ 65536 ∧ x.value.size ≤ 65536) → (attF t a).size ≤ t.size + a.length * 131086
  | [], t, _ => by rw [attF]; omega
  | x :: l, t, h => by
    rw [attF]
    have h0 := h x (.head _)
    have h1 := attF_le l (t ++ (txtQ x.name ++ txtQ x.value)) fun y hy => h y (.tail _ hy)
    have h2 := txtQ_le x.name
    have h3 := txtQ_le x.value
    simp only [ByteArray.size_append] at h1
    rw [List.length_cons]; omega
theorem putN_eq (b : ByteArray) (n : Nd) : putN b n = if leafB n = true then b ++ numS n.kind ++ txtQ n.text else putF (attF (b ++ numS n.kind ++ (numS n.space ++ txtQ n.name ++ numS n.attrs.length)) n.attrs) n.kids := by
  cases n; rw [putN]; rfl
mutual
theorem putN_mono : ∀ (n : Nd) (b : ByteArray), b.size ≤ (putN b n).size
  | ⟨k, s, m, a, t, c⟩, b => by
    rw [putN]
    split
    · simp only [ByteArray.size_append]; omega
    · refine Nat.le_trans ?_ (putG_mono c _)
      have := attF_mono a (b ++ numS k ++ (numS s ++ txtQ m ++ numS a.length))
      simp only [ByteArray.size_append] at this ⊢; omega
theorem putG_mono : ∀ (l : List Nd) (b : ByteArray), b.size ≤ (putG b l).size
  | [], b => by rw [putG]; exact Nat.le_refl _
  | n :: l, b => by rw [putG]; exact Nat.le_trans (putN_mono n b) (putG_mono l _)
end
mutual
theorem putN_le : ∀ (n : Nd) (b : ByteArray), bndNd n → (putN b n).size ≤ b.size + cntNd n * 31000000
  | ⟨k, s, m, a, t, c⟩, b, h => by
    rw [bndNd] at h
    obtain ⟨⟨h1, h2, h3, h4⟩, h5⟩ := h
    have q1 := numS_le k
    have q2 := numS_le s
    have q3 := numS_le (a.length : Int)
    have q4 := numS_le (c.length : Int)
    have q5 := txtQ_le t
    have q6 := txtQ_le m
    rw [putN, cntNd]
    split
    · simp only [ByteArray.size_append]; omega
    · have g1 := putG_le c (attF (b ++ numS k ++ (numS s ++ txtQ m ++ numS a.length)) a ++ numS c.length) h5
      have g2 := attF_le a (b ++ numS k ++ (numS s ++ txtQ m ++ numS a.length)) h4
      simp only [ByteArray.size_append] at g1 g2; omega
theorem putG_le : ∀ (l : List Nd) (b : ByteArray), bndNds l → (putG b l).size ≤ b.size + cntNds l * 31000000
  | [], b, _ => by rw [putG]; omega
  | n :: l, b, h => by
    rw [bndNds] at h
    rw [putG, cntNds]
    have h1 := putN_le n b h.1
    have h2 := putG_le l (putN b n) h.2
    omega
end
theorem fine_put {l : List Nd} (h : fineNds l) : (putF ⟨#[]⟩ l).size ≤ maxSl := by
  have h1 := putG_le l ((⟨#[]⟩ : ByteArray) ++ numS l.length) h.2
  have h2 := numS_le (l.length : Int)
  have h3 := h.1
  have h0 : (ByteArray.mk #[]).size = 0 := rfl
  have hmx : maxSl = 140737488355328 := rfl
  unfold putF
  rw [ByteArray.size_append] at h1; omega
theorem cnt_memN {l : List Nd} {n : Nd} (h : n ∈ l) : cntNd n ≤ cntNds l := by
  obtain ⟨i, hi, rfl⟩ := List.getElem_of_mem h
  exact cnt_mem hi
end Go.Proofs.YtnhipiedjekkpaaGreatDoor.AXP
namespace Go.Proofs.YtnhipiedjekkpaaGreatDoor.AX
open Go AXP
set_option maxRecDepth 100000
theorem putA_sum (k : Nat) : SumOK (cxPut k) (LL Tryz.f120 [lsPutO k, lsPutA]) Tryz.f120.ntmps (loopAt Tryz.f120 1).1 (loopAt Tryz.f120 1).2 lsPutA := by
  intro vs bs K hs
  unfold lsPutA at hs
  simp only at hs
  split at hs
  case h_2 => exact hs.elim
  rename_i l m j a q i t c0 c1 c2 c3 c4 c5
  rcases (show ∃ w : List At, w = a from ⟨_, rfl⟩) with ⟨a, rfl⟩
  obtain ⟨⟨rfl, rfl, hl, hsz⟩, h⟩ := hs
  refine sum_rec (σ := Nat × ByteArray) (fun s => [.ptr 0 0, .ptr 1 0, .row .node l, .int .i64 m, .int .i64 j, .row .attr a, .int .i64 a.length, .int .i64 (s.1 : Nat)]) (fun s => [.bld s.2, .box (nodeL ⟨c0, c1, c2, c3, c4, c5⟩)]) (fun s => s.1 ≤ a.length ∧ attF s.2 (a.drop s.1) = attF t a) (fun s => a.length - s.1) ?_ (0, t) ⟨Nat.zero_le _, rfl⟩
  rintro ⟨i, b⟩ ⟨hi, he⟩ R hR
  dsimp only at hi he hR ⊢
  refine Eq.mpr (vcPutA k ⟨c0, c1, c2, c3, c4, c5⟩ b l a m j a.length i _) ⟨fun h1 => ?_, fun h1 => ?_⟩
  · have hlt : i < a.length := by have := of_decide_eq_true h1; omega
    rw [rd_atA hlt]
    rw [List.drop_eq_getElem_cons hlt, attF] at he
    have hm := attF_mono (a.drop (i + 1)) (b ++ (txtQ a[i].name ++ txtQ a[i].value))
    rw [he] at hm
    have hm' := hm
    simp only [ByteArray.size_append] at hm'
    change b.size + ((txtQ a[i].1).size + (txtQ a[i].2).size) ≤ _ at hm'
    refine Rq.mk ⟨by omega, by omega⟩ (Rq.mk (by omega) (Rq.mk (by rw [ByteArray.size_append]; omega) ?_))
    rw [wrap_succ hlt hl]
    exact hR (i + 1, b ++ (txtQ a[i].name ++ txtQ a[i].value)) ⟨hlt, he⟩ (by dsimp only; omega)
  · have hge : a.length ≤ i := by have := of_decide_eq_false h1; omega
    rw [List.drop_of_length_le hge, attF] at he
    rw [he]
    exact h
theorem putO_sum (k : Nat) : SumOK (cxPut k) (LL Tryz.f120 [lsPutO k, lsPutA]) Tryz.f120.ntmps (loopAt Tryz.f120 0).1 (loopAt Tryz.f120 0).2 (lsPutO k) := by
  intro vs bs K hs
  unfold lsPutO at hs
  simp only at hs
  split at hs
  case h_2 => exact hs.elim
  rename_i l m i t
  rcases (show ∃ w : List Nd, w = l from ⟨_, rfl⟩) with ⟨l, rfl⟩
  obtain ⟨⟨rfl, rfl, hk, hl, hsz⟩, h⟩ := hs
  refine sum_rec (σ := Nat × ByteArray) (fun s => [.ptr 0 0, .row .node l, .int .i64 l.length, .int .i64 (s.1 : Nat)]) (fun s => [.bld s.2]) (fun s => s.1 ≤ l.length ∧ putG s.2 (l.drop s.1) = putG t l) (fun s => l.length - s.1) ?_ (0, t) ⟨Nat.zero_le _, rfl⟩
  rintro ⟨i, b⟩ ⟨hi, he⟩ R hR
  dsimp only at hi he hR ⊢
  refine Eq.mpr (vcPutO k b l l.length i _) ⟨fun h1 => ?_, fun h1 => ?_⟩
  · have hlt : i < l.length := by have := of_decide_eq_true h1; omega
    rw [rd_nd hlt]
    simp only [nd_eta]
    rw [List.drop_eq_getElem_cons hlt, putG] at he
    have hm := putG_mono (l.drop (i + 1)) (putN b l[i])
    rw [he] at hm
    have hm := Nat.le_trans hm hsz
    have hgo := hR (i + 1, putN b l[i]) ⟨hlt, he⟩ (by dsimp only; omega)
    dsimp only at hgo
    have hN := putN_eq b l[i]
    have hc := cnt_mem hlt
    rw [cntNd_eq] at hc
    generalize l[i] = n at hm hN hgo hc ⊢
    rw [wrap_succ hlt hl]
    refine Rq.mk ⟨by omega, by omega⟩ (Rq.mk ?_ ⟨fun h2 => Rq.mk ?_ ?_, fun h2 => ?_⟩)
    · rw [hN] at hm
      split at hm
      · simp only [ByteArray.size_append] at hm; show b.size + (numS n.kind).size ≤ _; omega
      · have g1 := putG_mono n.kids (attF (b ++ numS n.kind ++ (numS n.space ++ txtQ n.name ++ numS n.attrs.length)) n.attrs ++ numS n.kids.length)
        have g2 := attF_mono n.attrs (b ++ numS n.kind ++ (numS n.space ++ txtQ n.name ++ numS n.attrs.length))
        have g3 := Nat.le_trans g1 hm
        simp only [ByteArray.size_append] at g2 g3
        show b.size + (numS n.kind).size ≤ _
        omega
    · rw [hN, if_pos h2] at hm
      rw [← ByteArray.size_append]; exact hm
    · rw [hN, if_pos h2] at hgo
      exact hgo
    · rw [if_neg (by rw [h2]; decide)] at hN
      rw [hN] at hm hgo
      have g1 := putG_mono n.kids (attF (b ++ numS n.kind ++ (numS n.space ++ txtQ n.name ++ numS n.attrs.length)) n.attrs ++ numS n.kids.length)
      have g2 := attF_mono n.attrs (b ++ numS n.kind ++ (numS n.space ++ txtQ n.name ++ numS n.attrs.length))
      have g3 := Nat.le_trans g1 hm
      rw [ByteArray.size_append] at g3
      have g4 : (attF (b ++ numS n.kind ++ (numS n.space ++ txtQ n.name ++ numS n.attrs.length)) n.attrs).size ≤ maxSl := by omega
      have g5 := Nat.le_trans g2 g4
      have g6 : b.size + (numS n.1).size + ((numS n.2).size + (txtQ n.3).size + (numS (n.4.length : Int)).size) ≤ maxSl := by
        simp only [ByteArray.size_append] at g5
        exact g5
      refine Rq.mk (by omega) (Rq.mk (by rw [ByteArray.size_append]; omega) (Rq.mk ?_ ⟨fun _ => ⟨fun ha => Rq.mk ⟨trivial, trivial, ha, g4⟩ (Rq.mk ⟨by omega, hm⟩ hgo)⟩⟩))
      simp only [ByteArray.size_append]; omega
  · have hge : l.length ≤ i := by have := of_decide_eq_false h1; omega
    rw [List.drop_of_length_le hge, putG] at he
    rw [he]
    exact h
theorem put_lt : ∀ k, Holds 120 (conPutLt k)
  | 0 => by
    intro args hp ans hc
    unfold conPutLt at hc
    split at hc
    case h_2 => cases hc
    simp only [Option.bind_eq_some_iff] at hc
    obtain ⟨a, hx, hc⟩ := hc
    injection hc with hc
    subst hc
    intro F I w vals hH hv hpre
    exact absurd (hpre _ rfl).1 (Nat.not_lt_zero _)
  | k + 1 => by
    intro args hp ans hc
    unfold conPutLt at hc
    split at hc
    case h_2 => cases hc
    rename_i x t
    simp only [Option.bind_eq_some_iff] at hc
    obtain ⟨l, hx, hc⟩ := hc
    injection hc with hc
    subst hc
    rcases (show ∃ w : List Nd, w = l from ⟨_, rfl⟩) with ⟨l, rfl⟩
    refine Meets.weaken (args' := [.ptr 0 0, .row .node l]) (.cons (.refl _) (.cons (rowOf_le hx) .nil)) ?_
    refine fun_meets2 (AllH.tok (.cons tn_holds (by kernel_rfl) (.cons tt_holds (by kernel_rfl) (.cons leaf_holds (by kernel_rfl) (.cons write_holds (by kernel_rfl) (.cons (put_lt k) (by kernel_rfl) .nil)))))) [] (lsPutO k) lsPutA (by kernel_rfl) (by kernel_rfl) (putO_sum k) (putA_sum k) fun hpre => Eq.mpr (vcPutF k t l _) ?_
    obtain ⟨h1, h2⟩ : cntNds l < k + 1 ∧ (putF t l).size ≤ maxSl := hpre _ rfl
    have h3 := Nat.le_trans (putG_mono l (t ++ numS l.length)) h2
    rw [ByteArray.size_append] at h3
    exact Rq.mk h3 ⟨fun _ => ⟨fun hl => Rq.mk ⟨rfl, rfl, h1, hl, h2⟩ (qfin rfl rfl rfl rfl)⟩⟩
theorem put_holds : Holds 120 conPut := by
  intro args hp ans hc
  unfold conPut at hc
  split at hc
  case h_2 => cases hc
  rename_i x t
  simp only [Option.bind_eq_some_iff] at hc
  obtain ⟨l, hx, hc⟩ := hc
  injection hc with hc
  subst hc
  rcases (show ∃ w : List Nd, w = l from ⟨_, rfl⟩) with ⟨l, rfl⟩
  have := put_lt (cntNds l + 1) [.ptr 0 0, x] [.bld t] { pre := some (cntNds l < cntNds l + 1 ∧ (putF t l).size ≤ maxSl), res := .tup [], hp := [.bld (putF t l)] } (by unfold conPutLt; simp only [hx, Option.bind_some])
  exact fun F I w vals hH hv hpre => this F I w vals hH hv (fun p hp => by injection hp with hp; subst hp; exact ⟨Nat.lt_succ_self _, hpre _ rfl⟩)
theorem byts_sum : SumOK cxByts (LL Tryz.f98 [lsByts]) Tryz.f98.ntmps (loopAt Tryz.f98 0).1 (loopAt Tryz.f98 0).2 lsByts := by
  intro vs bs K hs
  unfold lsByts at hs
  simp only at hs
  split at hs
  case h_2 => exact hs.elim
  rename_i l l' m i
  rcases (show ∃ w : List Nd, w = l from ⟨_, rfl⟩) with ⟨l, rfl⟩
  obtain ⟨⟨el, rfl, rfl, hc⟩, h⟩ := hs
  have el : l = l' := el.symm
  subst el
  have hlen := cnt_len l
  have hm : l.length ≤ maxSl := by unfold maxSl; omega
  refine sum_rec (σ := Nat) (fun i => [.row .node l, .row .node l, .int .i64 l.length, .int .i64 (i : Nat)]) (fun _ => []) (fun i => i ≤ l.length ∧ lonNds (l.drop i) = lonNds l) (fun i => l.length - i) ?_ 0 ⟨Nat.zero_le _, rfl⟩
  rintro i ⟨hi, he⟩ R hR
  refine Eq.mpr (vcBytsB l l.length i _) ⟨fun h1 => ?_, fun h1 => ?_⟩
  · have hlt : i < l.length := by have := of_decide_eq_true h1; omega
    rw [rd_nd hlt]
    simp only [nd_eta]
    rw [List.drop_eq_getElem_cons hlt, lonNds] at he
    have := cnt_mem hlt
    refine Rq.mk ⟨by omega, by omega⟩ (Rq.mk (by omega) ⟨fun h2 => h.yes ?_, fun h2 => ?_⟩)
    · rw [h2, Bool.true_or] at he; exact he.symm
    · rw [h2, Bool.false_or] at he
      rw [wrap_succ hlt hm]
      exact hR (i + 1) ⟨hlt, he⟩ (by omega)
  · have hge : l.length ≤ i := by have := of_decide_eq_false h1; omega
    rw [List.drop_of_length_le hge] at he
    exact h.no he.symm
theorem byts_holds : Holds 98 conByts := conP_holds fun l => by
  rcases (show ∃ w : List Nd, w = l from ⟨_, rfl⟩) with ⟨l, rfl⟩
  refine fun_meets1 (AllH.tok (.cons chk_holds (by kernel_rfl) (.cons too_holds (by kernel_rfl) (.cons put_holds (by kernel_rfl) (.cons string_holds (by kernel_rfl) .nil))))) [] lsByts (by kernel_rfl) (by kernel_rfl) byts_sum fun hpre => Eq.mpr (vcBytsF l _) ?_
  have hf : fineNds l := hpre _ rfl
  have hs := fine_put hf
  have e : ∀ s b, bytS l = s → bytE l = b → [AV.str s, AV.int .i64 b] = compsOf (.tup [.str (bytS l), .int .i64 (bytE l)]) := fun s b h1 h2 => by rw [h1, h2]; rfl
  refine Rq.mk hf ⟨fun h1 => qfin rfl (e _ _ ?_ ?_) rfl rfl, fun h1 => ⟨fun _ => Rq.mk ⟨rfl, rfl, rfl, hf.1⟩ ⟨fun h2 => qfin rfl (e _ _ ?_ ?_) rfl rfl, fun h2 => Rq.mk hs (Rq.mk hs (qfin rfl (e _ _ ?_ ?_) rfl rfl))⟩⟩⟩
  · have h1 : ¬ checkS l = 0 := by simpa using h1
    have hb : bytE l = checkS l := by unfold bytE; rw [if_neg h1]
    unfold bytS; rw [hb, if_neg h1]
  · have h1 : ¬ checkS l = 0 := by simpa using h1
    unfold bytE; rw [if_neg h1]
  · have h1 : checkS l = 0 := by simpa using h1
    have hb : bytE l = 2 := by unfold bytE; rw [if_pos h1, if_pos h2]
    unfold bytS; rw [hb, if_neg (by decide)]
  · have h1 : checkS l = 0 := by simpa using h1
    unfold bytE; rw [if_pos h1, if_pos h2]
  · have h1 : checkS l = 0 := by simpa using h1
    have hb : bytE l = 0 := by unfold bytE; rw [if_pos h1, if_neg (by rw [h2]; decide)]
    unfold bytS; rw [if_pos hb]
  · have h1 : checkS l = 0 := by simpa using h1
    unfold bytE; rw [if_pos h1, if_neg (by rw [h2]; decide)]
end Go.Proofs.YtnhipiedjekkpaaGreatDoor.AX
end
section
namespace Go.Proofs.YtnhipiedjekkpaaGreatDoor.AXP
open Go Go.Proofs.YtnhipiedjekkpaaGreatDoor.AX
structure RS where
  b : ByteArray
  room : Int
  bad : Bool
def rNum (most : Int) (s : RS) : Int × RS :=
  match takeN (kb s.b) with
  | some (n, r) => if (n : Int) > most then (0, ⟨s.b, s.room, true⟩) else (n, ⟨bk r, s.room, s.bad⟩)
  | none => (0, ⟨s.b, s.room, true⟩)
def rTxt (s : RS) : ByteArray × RS :=
  match takeT (kb s.b) with
  | some (t, r) => (bk t, ⟨bk r, s.room, s.bad⟩)
  | none => (bk [], ⟨s.b, s.room, true⟩)
def rAtts : Nat → RS → List At × RS
  | 0, s => ([], s)
  | c + 1, s => if s.bad = true then ([], s) else (⟨(rTxt s).1, (rTxt (rTxt s).2).1⟩ :: (rAtts c (rTxt (rTxt s).2).2).1, (rAtts c (rTxt (rTxt s).2).2).2)
def rNode (rk : RS → List Nd × RS) (s : RS) : Nd × RS :=
  if ((rNum 3 s).1 == 2 || (rNum 3 s).1 == 3) = true then (⟨(rNum 3 s).1, 0, bk [], [], (rTxt (rNum 3 s).2).1, []⟩, (rTxt (rNum 3 s).2).2)
  else
    let s2 := (rNum 2 (rNum 3 s).2).2
    let s4 := (rNum 12 (rTxt s2).2).2
    let s5 := (rAtts (rNum 12 (rTxt s2).2).1.toNat s4).2
    (⟨(rNum 3 s).1, (rNum 2 (rNum 3 s).2).1, (rTxt s2).1, (rAtts (rNum 12 (rTxt s2).2).1.toNat s4).1, bk [], (rk s5).1⟩, (rk s5).2)
def rMany (f : RS → Nd × RS) : Nat → RS → List Nd × RS
  | 0, s => ([], s)
  | c + 1, s => if s.bad = true then ([], s) else ((f s).1 :: (rMany f c (f s).2).1, (rMany f c (f s).2).2)
def rHead (d : Int) (s : RS) : RS := ⟨(rNum s.room s).2.b, s.room - (rNum s.room s).1, (rNum s.room s).2.bad || decide (d > 41)⟩
def rNds : Nat → Int → RS → List Nd × RS
  | 0, _, s => ([], s)
  | k + 1, d, s => rMany (rNode (rNds k (d + 1))) (rNum s.room s).1.toNat (rHead d s)
theorem rNum_bad {m : Int} {s : RS} (h : (rNum m s).2.bad = false) : s.bad = false ∧ ∃ n r, takeN (kb s.b) = some (n, r) ∧ (n : Int) ≤ m ∧ rNum m s = ((n : Int), ⟨bk r, s.room, false⟩) := by
  unfold rNum at h ⊢
  split at h
  · rename_i n r hn
    rw [hn]
    split at h
    · cases h
    · rename_i hc
      have h : s.bad = false := h
      rw [if_neg hc, h]
      exact ⟨rfl, n, r, rfl, by omega, rfl⟩
  · cases h
theorem rNum_ok {m : Int} {s : RS} {n : Nat} {r : List UInt8} (h : takeN (kb s.b) = some (n, r)) (hm : (n : Int) ≤ m) : rNum m s = ((n : Int), ⟨bk r, s.room, s.bad⟩) := by
  unfold rNum; rw [h]; simp only; rw [if_neg (by omega)]
theorem rTxt_bad {s : RS} (h : (rTxt s).2.bad = false) : s.bad = false ∧ ∃ t r, takeT (kb s.b) = some (t, r) ∧ rTxt s = (bk t, ⟨bk r, s.room, false⟩) := by
  unfold rTxt at h ⊢
  split at h
  · rename_i t r hn
    rw [hn]
    have h : s.bad = false := h
    simp only [h]
    exact ⟨trivial, t, r, rfl, rfl⟩
  · cases h
theorem rTxt_ok {s : RS} {t r : List UInt8} (h : takeT (kb s.b) = some (t, r)) : rTxt s = (bk t, ⟨bk r, s.room, s.bad⟩) := by unfold rTxt; rw [h]
theorem rAtts_bad : ∀ {c : Nat} {s : RS}, (rAtts c s).2.bad = false → s.bad = false ∧ ∃ r, pAtts c (kb s.b) = some ((rAtts c s).1, r) ∧ (rAtts c s).2 = ⟨bk r, s.room, false⟩
  | 0, s, h => by
    have h : s.bad = false := h
    refine ⟨h, kb s.b, rfl, ?_⟩
    show s = _
    rw [bk_kb, ← h]
  | c + 1, s, h => by
    rw [rAtts] at h ⊢
    cases hb : s.bad with
    | true => rw [hb, if_pos rfl] at h; rw [hb] at h; cases h
    | false =>
      rw [hb, if_neg (by decide)] at h
      rw [if_neg (by decide)]
      obtain ⟨h1, r1, h2, h3⟩ := rAtts_bad (show (rAtts c (rTxt (rTxt s).2).2).2.bad = false from h)
      obtain ⟨h4, y, r2, h5, h6⟩ := rTxt_bad h1
      obtain ⟨_, x, r3, h7, h8⟩ := rTxt_bad h4
      rw [h8] at h5 h6
      simp only [kb_bk] at h5
      rw [h8] at h2 h3 ⊢
      rw [h6] at h2 h3 ⊢
      simp only [kb_bk] at h2
      refine ⟨rfl, r1, ?_, h3⟩
      rw [pAtts, h7]
      simp only
      rw [h5]
      simp only
      rw [h2]
theorem rAtts_ok : ∀ {c : Nat} {s : RS} {l : List At} {r : List UInt8}, s.bad = false → pAtts c (kb s.b) = some (l, r) → rAtts c s = (l, ⟨bk r, s.room, false⟩)
  | 0, s, l, r, hb, h => by
    rw [pAtts] at h
    injection h with h
    injection h with e1 e2
    subst e1; subst e2
    rw [rAtts, bk_kb, ← hb]
  | c + 1, s, l, r, hb, h => by
    rw [pAtts] at h
    split at h
    · cases h
    rename_i x r1 h1
    split at h
    · cases h
    rename_i y r2 h2
    split at h
    · cases h
    rename_i l' z h3
    injection h with h
    injection h with e1 e2
    subst e1; subst e2
    rw [rAtts, if_neg (by rw [hb]; decide), rTxt_ok h1]
    simp only
    rw [rTxt_ok (s := ⟨bk r1, s.room, s.bad⟩) (by rw [kb_bk]; exact h2)]
    simp only
    rw [rAtts_ok (s := ⟨bk r2, s.room, s.bad⟩) hb (by rw [kb_bk]; exact h3)]
def RGood (s : RS) (p : Option (List Nd × List UInt8)) (q : List Nd × RS) : Prop := q.2.bad = false → ∃ r, p = some (q.1, r) ∧ q.2 = ⟨bk r, s.room - cntNds q.1, false⟩
theorem rNode_bad {pk : List UInt8 → Option (List Nd × List UInt8)} {rk : RS → List Nd × RS} (hs : ∀ s, (rk s).2.bad = false → s.bad = false) (hk : ∀ s, s.bad = false → s.room ≤ 300 → RGood s (pk (kb s.b)) (rk s)) {s : RS} (hr : s.room ≤ 300) (h : (rNode rk s).2.bad = false) :
    s.bad = false ∧ ∃ r, pNd pk (kb s.b) = some ((rNode rk s).1, r) ∧ (rNode rk s).2 = ⟨bk r, s.room - ((cntNd (rNode rk s).1 : Nat) - 1 : Int), false⟩ := by
  unfold rNode at h ⊢
  split at h
  · rename_i hl
    rw [if_pos hl]
    obtain ⟨h1, t, r, h2, h3⟩ := rTxt_bad h
    obtain ⟨h4, n, r1, h5, h6, h7⟩ := rNum_bad h1
    rw [h7] at h2 h3 hl ⊢
    simp only [kb_bk] at h2
    rw [h3]
    refine ⟨h4, r, ?_, ?_⟩
    · unfold pNd
      rw [h5]
      simp only
      rw [if_neg (by omega), if_pos (by simp only [Bool.or_eq_true, beq_iff_eq] at hl; omega), h2]
    · show (⟨bk r, s.room, false⟩ : RS) = _
      congr 1
      simp [cntNd, cntNds]
  · rename_i hl
    rw [if_neg hl]
    dsimp only at h ⊢
    have b5 := hs _ h
    obtain ⟨b4, r4, h41, h42⟩ := rAtts_bad b5
    obtain ⟨b3, c, r3, h31, h32, h33⟩ := rNum_bad b4
    obtain ⟨b2, m, r2, h21, h22⟩ := rTxt_bad b3
    obtain ⟨b1, sp, r1, h11, h12, h13⟩ := rNum_bad b2
    obtain ⟨b0, k, r0, h01, h02, h03⟩ := rNum_bad b1
    rw [h03] at h11 h13 hl ⊢
    simp only [kb_bk] at h11
    rw [h03] at h21 h22 h31 h33 h41 h42 h
    rw [h13] at h21 h22 h31 h33 h41 h42 h ⊢
    simp only [kb_bk] at h21
    rw [h22] at h31 h33 h41 h42 h ⊢
    simp only [kb_bk] at h31
    rw [h33] at h41 h42 h ⊢
    simp only [kb_bk, Int.toNat_natCast] at h41 h42 h ⊢
    rw [h42] at h ⊢
    obtain ⟨z, h51, h52⟩ := hk ⟨bk r4, s.room, false⟩ rfl hr h
    rw [kb_bk] at h51
    refine ⟨b0, z, ?_, ?_⟩
    · unfold pNd
      rw [h01]
      simp only
      rw [if_neg (by omega), if_neg (by simp only [Bool.or_eq_true, beq_iff_eq] at hl; omega), h11]
      simp only
      rw [h21]
      simp only
      rw [h31]
      simp only
      rw [if_neg (by omega), h41]
      simp only
      rw [h51]
    · rw [h52]
      congr 1
      rw [cntNd]
      show s.room - (cntNds _ : Int) = s.room - (((1 + cntNds _ : Nat) : Int) - 1)
      omega
theorem rMany_sticky {f : RS → Nd × RS} (hf : ∀ s, (f s).2.bad = false → s.bad = false) : ∀ {c : Nat} {s : RS}, (rMany f c s).2.bad = false → s.bad = false
  | 0, _, h => h
  | c + 1, s, h => by
    rw [rMany] at h
    cases hb : s.bad with
    | true => rw [if_pos hb] at h; rw [hb] at h; cases h
    | false => rfl
theorem rNode_sticky {rk : RS → List Nd × RS} (hs : ∀ s, (rk s).2.bad = false → s.bad = false) {s : RS} (h : (rNode rk s).2.bad = false) : s.bad = false := by
  unfold rNode at h
  split at h
  · exact (rNum_bad (rTxt_bad h).1).1
  · exact (rNum_bad (rNum_bad (rTxt_bad (rNum_bad (rAtts_bad (hs _ h)).1).1).1).1).1
theorem rMany_bad {f : RS → Nd × RS} {p : List UInt8 → Option (Nd × List UInt8)} (hs : ∀ s, (f s).2.bad = false → s.bad = false)
    (hf : ∀ s, s.room ≤ 300 → (f s).2.bad = false → ∃ r, p (kb s.b) = some ((f s).1, r) ∧ (f s).2 = ⟨bk r, s.room - ((cntNd (f s).1 : Nat) - 1 : Int), false⟩) : ∀ {c : Nat} {s : RS}, s.room ≤ 300 → (rMany f c s).2.bad = false →
    ∃ r, pMany p c (kb s.b) = some ((rMany f c s).1, r) ∧ (rMany f c s).2 = ⟨bk r, s.room - ((cntNds (rMany f c s).1 : Nat) - (c : Nat) : Int), false⟩
  | 0, s, hr, h => by
    have h : s.bad = false := h
    refine ⟨kb s.b, rfl, ?_⟩
    show s = _
    rw [bk_kb, ← h]
    show s = ⟨s.b, s.room - (((cntNds [] : Nat) : Int) - ((0 : Nat) : Int)), s.bad⟩
    rw [cntNds]
    show s = ⟨s.b, s.room - (0 - 0), s.bad⟩
    rw [Int.sub_zero, Int.sub_zero]
  | c + 1, s, hr, h => by
    rw [rMany] at h ⊢
    cases hb : s.bad with
    | true => rw [hb, if_pos rfl] at h; rw [hb] at h; cases h
    | false =>
      rw [hb, if_neg (by decide)] at h
      rw [if_neg (by decide)]
      have h : (rMany f c (f s).2).2.bad = false := h
      obtain ⟨r, h1, h2⟩ := hf s hr (rMany_sticky hs h)
      have hcn : 1 ≤ cntNd (f s).1 := by rw [AX.cntNd_eq]; omega
      rw [h2] at h ⊢
      obtain ⟨z, h3, h4⟩ := rMany_bad hs hf (s := ⟨bk r, s.room - ((cntNd (f s).1 : Nat) - 1 : Int), false⟩) (by dsimp only; omega) h
      rw [kb_bk] at h3
      refine ⟨z, ?_, ?_⟩
      · rw [pMany, h1]
        simp only
        rw [h3]
      · rw [h4]
        congr 1
        rw [cntNds]
        dsimp only
        omega
theorem rNds_sticky : ∀ (k : Nat) (d : Int) (s : RS), (rNds k d s).2.bad = false → s.bad = false
  | 0, _, _, h => h
  | k + 1, d, s, h => by
    rw [rNds] at h
    have h1 := rMany_sticky (fun s hs => rNode_sticky (rNds_sticky k (d + 1)) hs) h
    unfold rHead at h1
    simp only [Bool.or_eq_false_iff] at h1
    exact (rNum_bad h1.1).1
theorem rNds_bad : ∀ (k : Nat) (d : Int) (s : RS), (43 - d).toNat < k → s.room ≤ 300 → RGood s (pNds (42 - d).toNat (kb s.b)) (rNds k d s)
  | 0, _, _, hk, _ => absurd hk (Nat.not_lt_zero _)
  | k + 1, d, s, hk, hr => by
    intro h
    rw [rNds] at h ⊢
    have hs := fun (s : RS) (hs : (rNode (rNds k (d + 1)) s).2.bad = false) => rNode_sticky (rNds_sticky k (d + 1)) hs
    have h1 := rMany_sticky hs h
    unfold rHead at h1
    simp only [Bool.or_eq_false_iff, decide_eq_false_iff_not] at h1
    obtain ⟨h1, hd⟩ := h1
    obtain ⟨_, n, r, h2, h3, h4⟩ := rNum_bad h1
    have eh : rHead d s = ⟨bk r, s.room - n, false⟩ := by
      unfold rHead
      rw [h4]
      simp only [decide_eq_false hd, Bool.or_false]
    rw [eh, h4] at h ⊢
    simp only [Int.toNat_natCast] at h ⊢
    have e1 : (42 - d).toNat = (42 - (d + 1)).toNat + 1 := by omega
    obtain ⟨z, h5, h6⟩ := rMany_bad (p := pNd (pNds (42 - (d + 1)).toNat)) hs (fun s hr hb => (rNode_bad (rNds_sticky k (d + 1)) (fun s _ hr => rNds_bad k (d + 1) s (by omega) hr) hr hb).2) (s := ⟨bk r, s.room - n, false⟩) (by dsimp only; omega) h
    rw [kb_bk] at h5
    refine ⟨z, ?_, ?_⟩
    · rw [e1, pNds, h2]
      simp only
      rw [if_neg (by omega), h5]
    · rw [h6]
      congr 1
      dsimp only
      omega
theorem rNode_ok {pk : List UInt8 → Option (List Nd × List UInt8)} {rk : RS → List Nd × RS} (hk : ∀ s l r, s.bad = false → pk (kb s.b) = some (l, r) → (cntNds l : Int) ≤ s.room → rk s = (l, ⟨bk r, s.room - cntNds l, false⟩)) {s : RS} {n : Nd} {r : List UInt8} (hb : s.bad = false)
    (h : pNd pk (kb s.b) = some (n, r)) (hr : (cntNd n : Int) - 1 ≤ s.room) : rNode rk s = (n, ⟨bk r, s.room - ((cntNd n : Nat) - 1 : Int), false⟩) := by
  unfold pNd at h
  split at h
  · cases h
  rename_i k r0 h0
  split at h
  · cases h
  rename_i hk3
  have e0 := rNum_ok (m := 3) h0 (by omega)
  rw [hb] at e0
  unfold rNode
  rw [e0]
  simp only
  split at h
  · rename_i hk
    split at h
    · cases h
    rename_i t z h1
    injection h with h
    injection h with e1 e2
    subst e1; subst e2
    rw [if_pos (by simp only [Bool.or_eq_true, beq_iff_eq]; omega), rTxt_ok (s := ⟨bk r0, s.room, false⟩) (by rw [kb_bk]; exact h1)]
    simp [cntNd, cntNds]
  · rename_i hkk
    split at h
    · cases h
    rename_i sp r1 h1
    split at h
    · cases h
    rename_i m r2 h2
    split at h
    · cases h
    rename_i c r3 h3
    split at h
    · cases h
    rename_i hsc
    split at h
    · cases h
    rename_i a r4 h4
    split at h
    · cases h
    rename_i l z h5
    injection h with h
    injection h with e1 e2
    subst e1; subst e2
    rw [cntNd] at hr
    have x1 := rNum_ok (m := 2) (s := ⟨bk r0, s.room, false⟩) (by rw [kb_bk]; exact h1) (by omega)
    have x2 := rTxt_ok (s := ⟨bk r1, s.room, false⟩) (by rw [kb_bk]; exact h2)
    have x3 := rNum_ok (m := 12) (s := ⟨bk r2, s.room, false⟩) (by rw [kb_bk]; exact h3) (by omega)
    have x4 := rAtts_ok (s := ⟨bk r3, s.room, false⟩) rfl (by rw [kb_bk]; exact h4)
    have x5 := hk ⟨bk r4, s.room, false⟩ l z rfl (by rw [kb_bk]; exact h5) (by dsimp only; omega)
    rw [if_neg (by simp only [Bool.or_eq_true, beq_iff_eq]; omega), x1]
    simp only
    rw [x2]
    simp only
    rw [x3]
    simp only [Int.toNat_natCast]
    rw [x4]
    simp only
    rw [x5]
    simp only
    congr 2
    rw [cntNd]
    omega
theorem rMany_ok {f : RS → Nd × RS} {p : List UInt8 → Option (Nd × List UInt8)} (hf : ∀ s n r, s.bad = false → p (kb s.b) = some (n, r) → (cntNd n : Int) - 1 ≤ s.room → f s = (n, ⟨bk r, s.room - ((cntNd n : Nat) - 1 : Int), false⟩)) : ∀ {c : Nat} {s : RS} {l : List Nd} {r : List UInt8}, s.bad = false →
    pMany p c (kb s.b) = some (l, r) → (cntNds l : Int) - c ≤ s.room → rMany f c s = (l, ⟨bk r, s.room - ((cntNds l : Nat) - (c : Nat) : Int), false⟩)
  | 0, s, l, r, hb, h, hr => by
    rw [pMany] at h
    injection h with h
    injection h with e1 e2
    subst e1; subst e2
    rw [rMany, bk_kb, cntNds]
    show ([], s) = ([], (⟨s.b, s.room - (0 - 0), false⟩ : RS))
    rw [Int.sub_zero, Int.sub_zero, ← hb]
  | c + 1, s, l, r, hb, h, hr => by
    rw [pMany] at h
    split at h
    · cases h
    rename_i x r1 h1
    split at h
    · cases h
    rename_i l' z h2
    injection h with h
    injection h with e1 e2
    subst e1; subst e2
    rw [cntNds] at hr
    have hlen : ∀ {c : Nat} {b : List UInt8} {l : List Nd} {r : List UInt8}, pMany p c b = some (l, r) → l.length = c := by
      intro c
      induction c with
      | zero => intro b l r h; rw [pMany] at h; injection h with h; injection h with e1 _; subst e1; rfl
      | succ c ih =>
        intro b l r h
        rw [pMany] at h
        split at h
        · cases h
        split at h
        · cases h
        rename_i h2
        injection h with h
        injection h with e1 _
        subst e1
        rw [List.length_cons, ih h2]
    have hl := hlen h2
    have hcl := AX.cnt_len l'
    have x1 := hf s x r1 hb h1 (by omega)
    have x2 := rMany_ok hf (s := ⟨bk r1, s.room - ((cntNd x : Nat) - 1 : Int), false⟩) rfl (by rw [kb_bk]; exact h2) (by dsimp only; omega)
    rw [rMany, if_neg (by rw [hb]; decide), x1]
    simp only
    rw [x2]
    simp only
    congr 2
    rw [cntNds]
    omega
theorem rNds_ok : ∀ (k : Nat) (d : Int) (s : RS) (l : List Nd) (r : List UInt8), (43 - d).toNat < k → s.bad = false → pNds (42 - d).toNat (kb s.b) = some (l, r) → (cntNds l : Int) ≤ s.room → rNds k d s = (l, ⟨bk r, s.room - cntNds l, false⟩)
  | 0, _, _, _, _, hk, _, _, _ => absurd hk (Nat.not_lt_zero _)
  | k + 1, d, s, l, r, hk, hb, h, hr => by
    have hd : d ≤ 41 := by
      rcases Int.lt_or_le 41 d with h' | h'
      · rw [show (42 - d).toNat = 0 by omega] at h; cases h
      · exact h'
    have e1 : (42 - d).toNat = (42 - (d + 1)).toNat + 1 := by omega
    rw [e1, pNds] at h
    split at h
    · cases h
    rename_i c r1 h1
    split at h
    · cases h
    have hlen : l.length = c := (pMany_inv (fun b n r hb => pNd_inv (pNds_inv _) hb) h).2
    have hcl := AX.cnt_len l
    have x1 := rNum_ok (m := s.room) h1 (by omega)
    have eh : rHead d s = ⟨bk r1, s.room - c, false⟩ := by
      unfold rHead
      rw [x1, hb]
      simp only [decide_eq_false (show ¬ d > 41 by omega), Bool.or_false]
    rw [rNds, eh, x1]
    simp only [Int.toNat_natCast]
    rw [rMany_ok (fun s n r hb h hr => rNode_ok (fun s l r hb h hr => rNds_ok k (d + 1) s l r (by omega) hb h hr) hb h hr) (s := ⟨bk r1, s.room - c, false⟩) rfl (by rw [kb_bk]; exact h) (by dsimp only; omega)]
    congr 2
    dsimp only
    omega
end Go.Proofs.YtnhipiedjekkpaaGreatDoor.AXP
end
section
namespace Go.Proofs.YtnhipiedjekkpaaGreatDoor.AXP
open Go Go.Proofs.YtnhipiedjekkpaaGreatDoor.AX
def rdS (b : ByteArray) : List Nd × RS := rNds 43 1 ⟨b, 300, false⟩
def rdOK (b : ByteArray) : Bool := !(rdS b).2.bad && eqS (rdS b).2.b ⟨#[]⟩ && (checkS (rdS b).1 == 0)
def rdL (b : ByteArray) : List Nd := if rdOK b = true then (rdS b).1 else []
def rdE (b : ByteArray) : Int := if rdOK b = true then 0 else 4
def rdPre (b : ByteArray) : Prop := (rdS b).2.bad = false → (rdS b).2.b.size = 0 → fineNds (rdS b).1
def nV (m : Int) (b : ByteArray) : Int := (rNum m ⟨b, 0, false⟩).1
def nB (m : Int) (b : ByteArray) : ByteArray := (rNum m ⟨b, 0, false⟩).2.b
def nE (m : Int) (b : ByteArray) : Bool := (rNum m ⟨b, 0, false⟩).2.bad
def tV (b : ByteArray) : ByteArray := (rTxt ⟨b, 0, false⟩).1
def tB (b : ByteArray) : ByteArray := (rTxt ⟨b, 0, false⟩).2.b
def tE (b : ByteArray) : Bool := (rTxt ⟨b, 0, false⟩).2.bad
def aL (k : Int) (b : ByteArray) (e : Bool) : List At := (rAtts k.toNat ⟨b, 0, e⟩).1
def aB (k : Int) (b : ByteArray) (e : Bool) : ByteArray := (rAtts k.toNat ⟨b, 0, e⟩).2.b
def aE (k : Int) (b : ByteArray) (e : Bool) : Bool := (rAtts k.toNat ⟨b, 0, e⟩).2.bad
end Go.Proofs.YtnhipiedjekkpaaGreatDoor.AXP
namespace Go.Proofs.YtnhipiedjekkpaaGreatDoor.AX
open Go AXP
noncomputable def cxRn : Cx := cxT (tabLook [(68, conTkN), (106, conTkT)])
def conRNum : Con := fun args hp => match args, hp with
  | [.ptr 0 0, .int .i64 m], [.box [.str b, .int .i64 r, .bool e]] => some { res := .int .i64 (nV m b), hp := [.box [.str (nB m b), .int .i64 r, .bool (e || nE m b)]] }
  | _, _ => none
def conRTxt : Con := fun args hp => match args, hp with
  | [.ptr 0 0], [.box [.str b, .int .i64 r, .bool e]] => some { res := .str (tV b), hp := [.box [.str (tB b), .int .i64 r, .bool (e || tE b)]] }
  | _, _ => none
noncomputable def conRNds (k : Nat) : Con := fun args hp => match args, hp with
  | [.ptr 0 0, .int .i64 d], [.box [.str b, .int .i64 r, .bool e]] => some { pre := some ((43 - d).toNat < k ∧ 0 ≤ r ∧ r ≤ 300 ∧ 1 ≤ d ∧ d ≤ 42), res := .own 1 0, hp := [.box [.str (rNds k d ⟨b, r, e⟩).2.b, .int .i64 (rNds k d ⟨b, r, e⟩).2.room, .bool (rNds k d ⟨b, r, e⟩).2.bad]], extra := [.rowb 0 .node (rNds k d ⟨b, r, e⟩).1] }
  | _, _ => none
noncomputable def cxRNode (k : Nat) : Cx := cxT (tabLook [(134, conRNum), (145, conRTxt), (127, conLeaf), (121, conRNds k)])
noncomputable def lsRNode : LS where
  keep := [(0, .as), (1, .as), (4, .as), (5, .as), (6, .as)]
  left := [(0, .as), (1, .as), (4, .as), (5, .as)]
  sum := fun vs bs K => match vs, bs with
    | [.ptr 0 0, .int .i64 d, .ptr 1 0, .ptr 2 0, .int .i64 k], [.box [.str b, .int .i64 r, .bool e], .box [.int .i64 z0, .int .i64 z1, .str z2, .nil, .str z4, .nil], .box [.int .i64 c0, .int .i64 c1, .str c2, .nil, .str c4, .nil]] => Rq (0 ≤ k ∧ k ≤ 12)
      (Br ((aL k b e).length == 0)
        (K (.exit 0) [.ptr 0 0, .int .i64 d, .ptr 1 0, .ptr 2 0] [.box [.str (aB k b e), .int .i64 r, .bool (aE k b e)], .box [.int .i64 z0, .int .i64 z1, .str z2, .nil, .str z4, .nil], .box [.int .i64 c0, .int .i64 c1, .str c2, .nil, .str c4, .nil]])
        (K (.exit 0) [.ptr 0 0, .int .i64 d, .ptr 1 0, .ptr 2 0] [.box [.str (aB k b e), .int .i64 r, .bool (aE k b e)], .box [.int .i64 z0, .int .i64 z1, .str z2, .nil, .str z4, .nil], .box [.int .i64 c0, .int .i64 c1, .str c2, .own 3 0, .str c4, .nil], .rowb 0 .attr (aL k b e)]))
    | _, _ => False
noncomputable def conRNode (k : Nat) : Con := fun args hp => match args, hp with
  | [.ptr 0 0, .int .i64 d], [.box [.str b, .int .i64 r, .bool e]] => some { pre := some ((42 - d).toNat < k ∧ 0 ≤ r ∧ r ≤ 300 ∧ 1 ≤ d ∧ d ≤ 41), res := .agg (nodeL (rNode (rNds k (d + 1)) ⟨b, r, e⟩).1), hp := [.box [.str (rNode (rNds k (d + 1)) ⟨b, r, e⟩).2.b, .int .i64 (rNode (rNds k (d + 1)) ⟨b, r, e⟩).2.room, .bool (rNode (rNds k (d + 1)) ⟨b, r, e⟩).2.bad]] }
  | _, _ => none
noncomputable def cxRNds (k : Nat) : Cx := cxT (tabLook [(134, conRNum), (135, conRNode k)])
noncomputable def lsRNds (k : Nat) : LS where
  keep := [(0, .as), (1, .as), (5, .own .node), (6, .as), (7, .as)]
  left := [(0, .as), (5, .own .node)]
  sum := fun vs bs K => match vs, bs with
    | [.ptr 0 0, .int .i64 d, .own 1 0, .int .i64 n, .int .i64 i], [.box [.str b, .int .i64 r, .bool e], .rowb 0 .node out] => Rq (i = 0 ∧ out.length = 0 ∧ 0 ≤ n ∧ n ≤ 300 ∧ 0 ≤ r ∧ r ≤ 300 ∧ (e = false → (42 - d).toNat < k ∧ 1 ≤ d ∧ d ≤ 41))
      (K (.exit 0) [.ptr 0 0, .own 1 0] [.box [.str (rMany (rNode (rNds k (d + 1))) n.toNat ⟨b, r, e⟩).2.b, .int .i64 (rMany (rNode (rNds k (d + 1))) n.toNat ⟨b, r, e⟩).2.room, .bool (rMany (rNode (rNds k (d + 1))) n.toNat ⟨b, r, e⟩).2.bad], .rowb 0 .node (rMany (rNode (rNds k (d + 1))) n.toNat ⟨b, r, e⟩).1])
    | _, _ => False
noncomputable def cxRead : Cx := cxT (tabLook [(121, conRNds 43), (97, conChk)])
end Go.Proofs.YtnhipiedjekkpaaGreatDoor.AX
end
section
namespace Go.Proofs.YtnhipiedjekkpaaGreatDoor.AX
open Go AXP
set_option maxRecDepth 100000
theorem vcRNumF (m r : Int) (b : ByteArray) (e : Bool) (Q : List AV → List Blk → List Blk → Prop) : (funA cxRn (LL Tryz.f134 []) Tryz.f134 [.ptr 0 0, .int .i64 m] [.box [.str b, .int .i64 r, .bool e]] [] Q) = (
Br (tkE b != (0 : Int)) (Q [AV.int IntKind.i64 (0 : Int)] [Blk.box [AV.str b, AV.int IntKind.i64 r, AV.bool true]] [])
 (Br (decide (tkN b > m))
 (Q [AV.int IntKind.i64 (0 : Int)] [Blk.box [AV.str b, AV.int IntKind.i64 r, AV.bool true]] [])
 (Q [AV.int IntKind.i64 (tkN b)] [Blk.box [AV.str (tkR b), AV.int IntKind.i64 r, AV.bool e]] []))) := by kernel_rfl
theorem vcRTxtF (r : Int) (b : ByteArray) (e : Bool) (Q : List AV → List Blk → List Blk → Prop) : (funA cxRn (LL Tryz.f145 []) Tryz.f145 [.ptr 0 0] [.box [.str b, .int .i64 r, .bool e]] [] Q) = (
Br (ttE b != (0 : Int))
 (Q [AV.str (ByteArray.mk (Array.mk []))] [Blk.box [AV.str b, AV.int IntKind.i64 r, AV.bool true]] [])
 (Q [AV.str (ttS b)] [Blk.box [AV.str (ttR b), AV.int IntKind.i64 r, AV.bool e]] [])) := by kernel_rfl
theorem vcRNode0 (j : Nat) (d r k z0 z1 c0 c1 : Int) (b z2 z4 c2 c4 : ByteArray) (e : Bool) (K : Ex → List AV → List Blk → Prop) : (bodyA (cxRNode j) (LL Tryz.f135 [lsRNode]) Tryz.f135.ntmps (loopAt Tryz.f135 0).1 (loopAt Tryz.f135 0).2 lsRNode.keep lsRNode.left K [.ptr 0 0, .int .i64 d, .ptr 1 0, .ptr 2 0, .int .i64 k] [.box [.str b, .int .i64 r, .bool e], .box [.int .i64 z0, .int .i64 z1, .str z2, .nil, .str z4, .nil], .box [.int .i64 c0, .int .i64 c1, .str c2, .nil, .str c4, .nil]]) = (
Br (decide (k > (0 : Int)))
 (Br (!e)
 (Rq ([At.mk (tV b) (tV (tB b))].length * (32 : Nat) ≤ maxSl)
 (K Ex.norm
 [AV.ptr (0 : Nat) (0 : Nat), AV.int IntKind.i64 d, AV.ptr ((0 : Nat) + (1 : Nat)) (0 : Nat),
 AV.ptr ((0 : Nat) + (1 : Nat) + (1 : Nat)) (0 : Nat), AV.int IntKind.i64 (IntKind.i64.wrap (k - (1 : Int)))]
 [Blk.box [AV.str (tB (tB b)), AV.int IntKind.i64 r, AV.bool (e || tE b || tE (tB b))],
 Blk.box [AV.int IntKind.i64 z0, AV.int IntKind.i64 z1, AV.str z2, AV.nil, AV.str z4, AV.nil],
 Blk.box
 [AV.int IntKind.i64 c0, AV.int IntKind.i64 c1, AV.str c2,
 AV.own ((0 : Nat) + (1 : Nat) + (1 : Nat) + (1 : Nat)) (0 : Nat), AV.str c4, AV.nil],
 Blk.rowb (0 : Nat) Ty.attr [At.mk (tV b) (tV (tB b))]]))
 (K (Ex.exit (0 : Nat))
 [AV.ptr (0 : Nat) (0 : Nat), AV.int IntKind.i64 d, AV.ptr ((0 : Nat) + (1 : Nat)) (0 : Nat),
 AV.ptr ((0 : Nat) + (1 : Nat) + (1 : Nat)) (0 : Nat)]
 [Blk.box [AV.str b, AV.int IntKind.i64 r, AV.bool e],
 Blk.box [AV.int IntKind.i64 z0, AV.int IntKind.i64 z1, AV.str z2, AV.nil, AV.str z4, AV.nil],
 Blk.box [AV.int IntKind.i64 c0, AV.int IntKind.i64 c1, AV.str c2, AV.nil, AV.str c4, AV.nil]]))
 (K (Ex.exit (0 : Nat))
 [AV.ptr (0 : Nat) (0 : Nat), AV.int IntKind.i64 d, AV.ptr ((0 : Nat) + (1 : Nat)) (0 : Nat),
 AV.ptr ((0 : Nat) + (1 : Nat) + (1 : Nat)) (0 : Nat)]
 [Blk.box [AV.str b, AV.int IntKind.i64 r, AV.bool e],
 Blk.box [AV.int IntKind.i64 z0, AV.int IntKind.i64 z1, AV.str z2, AV.nil, AV.str z4, AV.nil],
 Blk.box [AV.int IntKind.i64 c0, AV.int IntKind.i64 c1, AV.str c2, AV.nil, AV.str c4, AV.nil]])) := by kernel_rfl
theorem vcRNode1 (j : Nat) (d r k z0 z1 c0 c1 : Int) (b z2 z4 c2 c4 : ByteArray) (e : Bool) (a : List At) (K : Ex → List AV → List Blk → Prop) : (bodyA (cxRNode j) (LL Tryz.f135 [lsRNode]) Tryz.f135.ntmps (loopAt Tryz.f135 0).1 (loopAt Tryz.f135 0).2 lsRNode.keep lsRNode.left K [.ptr 0 0, .int .i64 d, .ptr 1 0, .ptr 2 0, .int .i64 k] [.box [.str b, .int .i64 r, .bool e], .box [.int .i64 z0, .int .i64 z1, .str z2, .nil, .str z4, .nil], .box [.int .i64 c0, .int .i64 c1, .str c2, .own 3 0, .str c4, .nil], .rowb 0 .attr a]) = (
Br (decide (k > (0 : Int)))
 (Br (!e)
 (Rq ((a.length + [At.mk (tV b) (tV (tB b))].length) * (32 : Nat) ≤ maxSl)
 (K Ex.norm
 [AV.ptr (0 : Nat) (0 : Nat), AV.int IntKind.i64 d, AV.ptr ((0 : Nat) + (1 : Nat)) (0 : Nat),
 AV.ptr ((0 : Nat) + (1 : Nat) + (1 : Nat)) (0 : Nat), AV.int IntKind.i64 (IntKind.i64.wrap (k - (1 : Int)))]
 [Blk.box [AV.str (tB (tB b)), AV.int IntKind.i64 r, AV.bool (e || tE b || tE (tB b))],
 Blk.box [AV.int IntKind.i64 z0, AV.int IntKind.i64 z1, AV.str z2, AV.nil, AV.str z4, AV.nil],
 Blk.box
 [AV.int IntKind.i64 c0, AV.int IntKind.i64 c1, AV.str c2,
 AV.own ((0 : Nat) + (1 : Nat) + (1 : Nat) + (1 : Nat)) (0 : Nat), AV.str c4, AV.nil],
 Blk.rowb (0 : Nat) Ty.attr (a ++ [At.mk (tV b) (tV (tB b))])]))
 (K (Ex.exit (0 : Nat))
 [AV.ptr (0 : Nat) (0 : Nat), AV.int IntKind.i64 d, AV.ptr ((0 : Nat) + (1 : Nat)) (0 : Nat),
 AV.ptr ((0 : Nat) + (1 : Nat) + (1 : Nat)) (0 : Nat)]
 [Blk.box [AV.str b, AV.int IntKind.i64 r, AV.bool e],
 Blk.box [AV.int IntKind.i64 z0, AV.int IntKind.i64 z1, AV.str z2, AV.nil, AV.str z4, AV.nil],
 Blk.box
 [AV.int IntKind.i64 c0, AV.int IntKind.i64 c1, AV.str c2,
 AV.own ((0 : Nat) + (1 : Nat) + (1 : Nat) + (1 : Nat)) (0 : Nat), AV.str c4, AV.nil],
 Blk.rowb (0 : Nat) Ty.attr a]))
 (K (Ex.exit (0 : Nat))
 [AV.ptr (0 : Nat) (0 : Nat), AV.int IntKind.i64 d, AV.ptr ((0 : Nat) + (1 : Nat)) (0 : Nat),
 AV.ptr ((0 : Nat) + (1 : Nat) + (1 : Nat)) (0 : Nat)]
 [Blk.box [AV.str b, AV.int IntKind.i64 r, AV.bool e],
 Blk.box [AV.int IntKind.i64 z0, AV.int IntKind.i64 z1, AV.str z2, AV.nil, AV.str z4, AV.nil],
 Blk.box
 [AV.int IntKind.i64 c0, AV.int IntKind.i64 c1, AV.str c2,
 AV.own ((0 : Nat) + (1 : Nat) + (1 : Nat) + (1 : Nat)) (0 : Nat), AV.str c4, AV.nil],
 Blk.rowb (0 : Nat) Ty.attr a])) := by kernel_rfl
theorem vcRNodeF (k : Nat) (d r : Int) (b : ByteArray) (e : Bool) (Q : List AV → List Blk → List Blk → Prop) : (funA (cxRNode k) (LL Tryz.f135 [lsRNode]) Tryz.f135 [.ptr 0 0, .int .i64 d] [.box [.str b, .int .i64 r, .bool e]] [.as, .as, .as, .row .attr, .as, .row .node] Q) = (
Br (leafB (Nd.mk (nV (3 : Int) b) (0 : Int) (ByteArray.mk (Array.mk [])) [] (ByteArray.mk (Array.mk [])) []))
 (Q
 [AV.agg
 [AV.int IntKind.i64 (nV (3 : Int) b), AV.int IntKind.i64 (0 : Int), AV.str (ByteArray.mk (Array.mk [])),
 AV.row Ty.attr [], AV.str (tV (nB (3 : Int) b)), AV.row Ty.node []]]
 [Blk.box [AV.str (tB (nB (3 : Int) b)), AV.int IntKind.i64 r, AV.bool (e || nE (3 : Int) b || tE (nB (3 : Int) b))]]
 [])
 (Rq
 ((0 : Int) ≤ nV (12 : Int) (tB (nB (2 : Int) (nB (3 : Int) b))) ∧
 nV (12 : Int) (tB (nB (2 : Int) (nB (3 : Int) b))) ≤ (12 : Int))
 (Br
 ((aL (nV (12 : Int) (tB (nB (2 : Int) (nB (3 : Int) b)))) (nB (12 : Int) (tB (nB (2 : Int) (nB (3 : Int) b))))
 (e || nE (3 : Int) b || nE (2 : Int) (nB (3 : Int) b) || tE (nB (2 : Int) (nB (3 : Int) b)) ||
 nE (12 : Int) (tB (nB (2 : Int) (nB (3 : Int) b))))).length ==
 (0 : Nat))
 (Rq
 (((43 : Int) - IntKind.i64.wrap (d + (1 : Int))).toNat < k ∧
 (0 : Int) ≤ r ∧
 r ≤ (300 : Int) ∧
 (1 : Int) ≤ IntKind.i64.wrap (d + (1 : Int)) ∧ IntKind.i64.wrap (d + (1 : Int)) ≤ (42 : Int))
 (Q
 [AV.agg
 [AV.int IntKind.i64 (nV (3 : Int) b), AV.int IntKind.i64 (nV (2 : Int) (nB (3 : Int) b)),
 AV.str (tV (nB (2 : Int) (nB (3 : Int) b))), AV.row Ty.attr [], AV.str (ByteArray.mk (Array.mk [])),
 AV.row Ty.node
 (rNds k (IntKind.i64.wrap (d + (1 : Int)))
 (RS.mk
 (aB (nV (12 : Int) (tB (nB (2 : Int) (nB (3 : Int) b))))
 (nB (12 : Int) (tB (nB (2 : Int) (nB (3 : Int) b))))
 (e || nE (3 : Int) b || nE (2 : Int) (nB (3 : Int) b) || tE (nB (2 : Int) (nB (3 : Int) b)) ||
 nE (12 : Int) (tB (nB (2 : Int) (nB (3 : Int) b)))))
 r
 (aE (nV (12 : Int) (tB (nB (2 : Int) (nB (3 : Int) b))))
 (nB (12 : Int) (tB (nB (2 : Int) (nB (3 : Int) b))))
 (e || nE (3 : Int) b || nE (2 : Int) (nB (3 : Int) b) || tE (nB (2 : Int) (nB (3 : Int) b)) ||
 nE (12 : Int) (tB (nB (2 : Int) (nB (3 : Int) b))))))).1]]
 [Blk.box
 [AV.str
 (rNds k (IntKind.i64.wrap (d + (1 : Int)))
 (RS.mk
 (aB (nV (12 : Int) (tB (nB (2 : Int) (nB (3 : Int) b))))
 (nB (12 : Int) (tB (nB (2 : Int) (nB (3 : Int) b))))
 (e || nE (3 : Int) b || nE (2 : Int) (nB (3 : Int) b) ||
 tE (nB (2 : Int) (nB (3 : Int) b)) ||
 nE (12 : Int) (tB (nB (2 : Int) (nB (3 : Int) b)))))
 r
 (aE (nV (12 : Int) (tB (nB (2 : Int) (nB (3 : Int) b))))
 (nB (12 : Int) (tB (nB (2 : Int) (nB (3 : Int) b))))
 (e || nE (3 : Int) b || nE (2 : Int) (nB (3 : Int) b) ||
 tE (nB (2 : Int) (nB (3 : Int) b)) ||
 nE (12 : Int) (tB (nB (2 : Int) (nB (3 : Int) b))))))).2.b,
 AV.int IntKind.i64
 (rNds k (IntKind.i64.wrap (d + (1 : Int)))
 (RS.mk
 (aB (nV (12 : Int) (tB (nB (2 : Int) (nB (3 : Int) b))))
 (nB (12 : Int) (tB (nB (2 : Int) (nB (3 : Int) b))))
 (e || nE (3 : Int) b || nE (2 : Int) (nB (3 : Int) b) ||
 tE (nB (2 : Int) (nB (3 : Int) b)) ||
 nE (12 : Int) (tB (nB (2 : Int) (nB (3 : Int) b)))))
 r
 (aE (nV (12 : Int) (tB (nB (2 : Int) (nB (3 : Int) b))))
 (nB (12 : Int) (tB (nB (2 : Int) (nB (3 : Int) b))))
 (e || nE (3 : Int) b || nE (2 : Int) (nB (3 : Int) b) ||
 tE (nB (2 : Int) (nB (3 : Int) b)) ||
 nE (12 : Int) (tB (nB (2 : Int) (nB (3 : Int) b))))))).2.room,
 AV.bool
 (rNds k (IntKind.i64.wrap (d + (1 : Int)))
 (RS.mk
 (aB (nV (12 : Int) (tB (nB (2 : Int) (nB (3 : Int) b))))
 (nB (12 : Int) (tB (nB (2 : Int) (nB (3 : Int) b))))
 (e || nE (3 : Int) b || nE (2 : Int) (nB (3 : Int) b) ||
 tE (nB (2 : Int) (nB (3 : Int) b)) ||
 nE (12 : Int) (tB (nB (2 : Int) (nB (3 : Int) b)))))
 r
 (aE (nV (12 : Int) (tB (nB (2 : Int) (nB (3 : Int) b))))
 (nB (12 : Int) (tB (nB (2 : Int) (nB (3 : Int) b))))
 (e || nE (3 : Int) b || nE (2 : Int) (nB (3 : Int) b) ||
 tE (nB (2 : Int) (nB (3 : Int) b)) ||
 nE (12 : Int) (tB (nB (2 : Int) (nB (3 : Int) b))))))).2.bad]]
 []))
 (Rq
 (((43 : Int) - IntKind.i64.wrap (d + (1 : Int))).toNat < k ∧
 (0 : Int) ≤ r ∧
 r ≤ (300 : Int) ∧
 (1 : Int) ≤ IntKind.i64.wrap (d + (1 : Int)) ∧ IntKind.i64.wrap (d + (1 : Int)) ≤ (42 : Int))
 (Q
 [AV.agg
 [AV.int IntKind.i64 (nV (3 : Int) b), AV.int IntKind.i64 (nV (2 : Int) (nB (3 : Int) b)),
 AV.str (tV (nB (2 : Int) (nB (3 : Int) b))),
 AV.row Ty.attr
 (aL (nV (12 : Int) (tB (nB (2 : Int) (nB (3 : Int) b))))
 (nB (12 : Int) (tB (nB (2 : Int) (nB (3 : Int) b))))
 (e || nE (3 : Int) b || nE (2 : Int) (nB (3 : Int) b) || tE (nB (2 : Int) (nB (3 : Int) b)) ||
 nE (12 : Int) (tB (nB (2 : Int) (nB (3 : Int) b))))),
 AV.str (ByteArray.mk (Array.mk [])),
 AV.row Ty.node
 (rNds k (IntKind.i64.wrap (d + (1 : Int)))
 (RS.mk
 (aB (nV (12 : Int) (tB (nB (2 : Int) (nB (3 : Int) b))))
 (nB (12 : Int) (tB (nB (2 : Int) (nB (3 : Int) b))))
 (e || nE (3 : Int) b || nE (2 : Int) (nB (3 : Int) b) || tE (nB (2 : Int) (nB (3 : Int) b)) ||
 nE (12 : Int) (tB (nB (2 : Int) (nB (3 : Int) b)))))
 r
 (aE (nV (12 : Int) (tB (nB (2 : Int) (nB (3 : Int) b))))
 (nB (12 : Int) (tB (nB (2 : Int) (nB (3 : Int) b))))
 (e || nE (3 : Int) b || nE (2 : Int) (nB (3 : Int) b) || tE (nB (2 : Int) (nB (3 : Int) b)) ||
 nE (12 : Int) (tB (nB (2 : Int) (nB (3 : Int) b))))))).1]]
 [Blk.box
 [AV.str
 (rNds k (IntKind.i64.wrap (d + (1 : Int)))
 (RS.mk
 (aB (nV (12 : Int) (tB (nB (2 : Int) (nB (3 : Int) b))))
 (nB (12 : Int) (tB (nB (2 : Int) (nB (3 : Int) b))))
 (e || nE (3 : Int) b || nE (2 : Int) (nB (3 : Int) b) ||
 tE (nB (2 : Int) (nB (3 : Int) b)) ||
 nE (12 : Int) (tB (nB (2 : Int) (nB (3 : Int) b)))))
 r
 (aE (nV (12 : Int) (tB (nB (2 : Int) (nB (3 : Int) b))))
 (nB (12 : Int) (tB (nB (2 : Int) (nB (3 : Int) b))))
 (e || nE (3 : Int) b || nE (2 : Int) (nB (3 : Int) b) ||
 tE (nB (2 : Int) (nB (3 : Int) b)) ||
 nE (12 : Int) (tB (nB (2 : Int) (nB (3 : Int) b))))))).2.b,
 AV.int IntKind.i64
 (rNds k (IntKind.i64.wrap (d + (1 : Int)))
 (RS.mk
 (aB (nV (12 : Int) (tB (nB (2 : Int) (nB (3 : Int) b))))
 (nB (12 : Int) (tB (nB (2 : Int) (nB (3 : Int) b))))
 (e || nE (3 : Int) b || nE (2 : Int) (nB (3 : Int) b) ||
 tE (nB (2 : Int) (nB (3 : Int) b)) ||
 nE (12 : Int) (tB (nB (2 : Int) (nB (3 : Int) b)))))
 r
 (aE (nV (12 : Int) (tB (nB (2 : Int) (nB (3 : Int) b))))
 (nB (12 : Int) (tB (nB (2 : Int) (nB (3 : Int) b))))
 (e || nE (3 : Int) b || nE (2 : Int) (nB (3 : Int) b) ||
 tE (nB (2 : Int) (nB (3 : Int) b)) ||
 nE (12 : Int) (tB (nB (2 : Int) (nB (3 : Int) b))))))).2.room,
 AV.bool
 (rNds k (IntKind.i64.wrap (d + (1 : Int)))
 (RS.mk
 (aB (nV (12 : Int) (tB (nB (2 : Int) (nB (3 : Int) b))))
 (nB (12 : Int) (tB (nB (2 : Int) (nB (3 : Int) b))))
 (e || nE (3 : Int) b || nE (2 : Int) (nB (3 : Int) b) ||
 tE (nB (2 : Int) (nB (3 : Int) b)) ||
 nE (12 : Int) (tB (nB (2 : Int) (nB (3 : Int) b)))))
 r
 (aE (nV (12 : Int) (tB (nB (2 : Int) (nB (3 : Int) b))))
 (nB (12 : Int) (tB (nB (2 : Int) (nB (3 : Int) b))))
 (e || nE (3 : Int) b || nE (2 : Int) (nB (3 : Int) b) ||
 tE (nB (2 : Int) (nB (3 : Int) b)) ||
 nE (12 : Int) (tB (nB (2 : Int) (nB (3 : Int) b))))))).2.bad]]
 []))))) := by kernel_rfl
theorem vcRNdsB (k : Nat) (d r n i : Int) (b : ByteArray) (e : Bool) (out : List Nd) (K : Ex → List AV → List Blk → Prop) : (bodyA (cxRNds k) (LL Tryz.f121 [lsRNds k]) Tryz.f121.ntmps (loopAt Tryz.f121 0).1 (loopAt Tryz.f121 0).2 (lsRNds k).keep (lsRNds k).left K [.ptr 0 0, .int .i64 d, .own 1 0, .int .i64 n, .int .i64 i] [.box [.str b, .int .i64 r, .bool e], .rowb 0 .node out]) = (
Br (decide (i < n))
 (Br (!e)
 (Rq (((42 : Int) - d).toNat < k ∧ (0 : Int) ≤ r ∧ r ≤ (300 : Int) ∧ (1 : Int) ≤ d ∧ d ≤ (41 : Int))
 (Rq
 ((out.length +
 [Nd.mk (rNode (rNds k (d + (1 : Int))) (RS.mk b r e)).1.1
 (rNode (rNds k (d + (1 : Int))) (RS.mk b r e)).1.2
 (rNode (rNds k (d + (1 : Int))) (RS.mk b r e)).1.3
 (rNode (rNds k (d + (1 : Int))) (RS.mk b r e)).1.4
 (rNode (rNds k (d + (1 : Int))) (RS.mk b r e)).1.5
 (rNode (rNds k (d + (1 : Int))) (RS.mk b r e)).1.6].length) *
 (96 : Nat) ≤
 maxSl)
 (K Ex.norm
 [AV.ptr (0 : Nat) (0 : Nat), AV.int IntKind.i64 d, AV.own ((0 : Nat) + (1 : Nat)) (0 : Nat),
 AV.int IntKind.i64 n, AV.int IntKind.i64 (IntKind.i64.wrap (i + (1 : Int)))]
 [Blk.box
 [AV.str (rNode (rNds k (d + (1 : Int))) (RS.mk b r e)).2.b,
 AV.int IntKind.i64 (rNode (rNds k (d + (1 : Int))) (RS.mk b r e)).2.room,
 AV.bool (rNode (rNds k (d + (1 : Int))) (RS.mk b r e)).2.bad],
 Blk.rowb (0 : Nat) Ty.node
 (out ++
 [Nd.mk (rNode (rNds k (d + (1 : Int))) (RS.mk b r e)).1.1
 (rNode (rNds k (d + (1 : Int))) (RS.mk b r e)).1.2
 (rNode (rNds k (d + (1 : Int))) (RS.mk b r e)).1.3
 (rNode (rNds k (d + (1 : Int))) (RS.mk b r e)).1.4
 (rNode (rNds k (d + (1 : Int))) (RS.mk b r e)).1.5
 (rNode (rNds k (d + (1 : Int))) (RS.mk b r e)).1.6])])))
 (K (Ex.exit (0 : Nat)) [AV.ptr (0 : Nat) (0 : Nat), AV.own ((0 : Nat) + (1 : Nat)) (0 : Nat)]
 [Blk.box [AV.str b, AV.int IntKind.i64 r, AV.bool e], Blk.rowb (0 : Nat) Ty.node out]))
 (K (Ex.exit (0 : Nat)) [AV.ptr (0 : Nat) (0 : Nat), AV.own ((0 : Nat) + (1 : Nat)) (0 : Nat)]
 [Blk.box [AV.str b, AV.int IntKind.i64 r, AV.bool e], Blk.rowb (0 : Nat) Ty.node out])) := by kernel_rfl
theorem vcRNdsF (k : Nat) (d r : Int) (b : ByteArray) (e : Bool) (Q : List AV → List Blk → List Blk → Prop) : (funA (cxRNds k) (LL Tryz.f121 [lsRNds k]) Tryz.f121 [.ptr 0 0, .int .i64 d] [.box [.str b, .int .i64 r, .bool e]] [.own .node] Q) = (
Br (decide (d > (41 : Int)))
 (Rq
 ((0 : Int) = (0 : Int) ∧
 (0 : Nat) = (0 : Nat) ∧
 (0 : Int) ≤ nV r b ∧
 nV r b ≤ (300 : Int) ∧
 (0 : Int) ≤ IntKind.i64.wrap (r - nV r b) ∧
 IntKind.i64.wrap (r - nV r b) ≤ (300 : Int) ∧
 (true = false → ((42 : Int) - d).toNat < k ∧ (1 : Int) ≤ d ∧ d ≤ (41 : Int)))
 (Q [AV.own ((0 : Nat) + (1 : Nat)) (0 : Nat)]
 [Blk.box
 [AV.str
 (rMany (rNode (rNds k (d + (1 : Int)))) (nV r b).toNat
 (RS.mk (nB r b) (IntKind.i64.wrap (r - nV r b)) true)).2.b,
 AV.int IntKind.i64
 (rMany (rNode (rNds k (d + (1 : Int)))) (nV r b).toNat
 (RS.mk (nB r b) (IntKind.i64.wrap (r - nV r b)) true)).2.room,
 AV.bool
 (rMany (rNode (rNds k (d + (1 : Int)))) (nV r b).toNat
 (RS.mk (nB r b) (IntKind.i64.wrap (r - nV r b)) true)).2.bad]]
 [Blk.rowb (0 : Nat) Ty.node
 (rMany (rNode (rNds k (d + (1 : Int)))) (nV r b).toNat
 (RS.mk (nB r b) (IntKind.i64.wrap (r - nV r b)) true)).1]))
 (Rq
 ((0 : Int) = (0 : Int) ∧
 (0 : Nat) = (0 : Nat) ∧
 (0 : Int) ≤ nV r b ∧
 nV r b ≤ (300 : Int) ∧
 (0 : Int) ≤ IntKind.i64.wrap (r - nV r b) ∧
 IntKind.i64.wrap (r - nV r b) ≤ (300 : Int) ∧
 ((e || nE r b) = false → ((42 : Int) - d).toNat < k ∧ (1 : Int) ≤ d ∧ d ≤ (41 : Int)))
 (Q [AV.own ((0 : Nat) + (1 : Nat)) (0 : Nat)]
 [Blk.box
 [AV.str
 (rMany (rNode (rNds k (d + (1 : Int)))) (nV r b).toNat
 (RS.mk (nB r b) (IntKind.i64.wrap (r - nV r b)) (e || nE r b))).2.b,
 AV.int IntKind.i64
 (rMany (rNode (rNds k (d + (1 : Int)))) (nV r b).toNat
 (RS.mk (nB r b) (IntKind.i64.wrap (r - nV r b)) (e || nE r b))).2.room,
 AV.bool
 (rMany (rNode (rNds k (d + (1 : Int)))) (nV r b).toNat
 (RS.mk (nB r b) (IntKind.i64.wrap (r - nV r b)) (e || nE r b))).2.bad]]
 [Blk.rowb (0 : Nat) Ty.node
 (rMany (rNode (rNds k (d + (1 : Int)))) (nV r b).toNat
 (RS.mk (nB r b) (IntKind.i64.wrap (r - nV r b)) (e || nE r b))).1]))) := by kernel_rfl
theorem vcReadF (b : ByteArray) (Q : List AV → List Blk → List Blk → Prop) : (funA cxRead (LL Tryz.f99 []) Tryz.f99 [.str b] [] [.row .node, .as] Q) = (
Rq
 (((43 : Int) - (1 : Int)).toNat < (43 : Nat) ∧
 (0 : Int) ≤ (300 : Int) ∧ (300 : Int) ≤ (300 : Int) ∧ (1 : Int) ≤ (1 : Int) ∧ (1 : Int) ≤ (42 : Int))
 (Br (rNds (43 : Nat) (1 : Int) (RS.mk b (300 : Int) false)).2.bad
 (Q [AV.row Ty.node [], AV.int IntKind.i64 (4 : Int)] [] [])
 (Br (!eqS (rNds (43 : Nat) (1 : Int) (RS.mk b (300 : Int) false)).2.b (ByteArray.mk (Array.mk [])))
 (Q [AV.row Ty.node [], AV.int IntKind.i64 (4 : Int)] [] [])
 (Rq (fineNds (rNds (43 : Nat) (1 : Int) (RS.mk b (300 : Int) false)).1)
 (Br (checkS (rNds (43 : Nat) (1 : Int) (RS.mk b (300 : Int) false)).1 != (0 : Int))
 (Q [AV.row Ty.node [], AV.int IntKind.i64 (4 : Int)] [] [])
 (Q [AV.row Ty.node (rNds (43 : Nat) (1 : Int) (RS.mk b (300 : Int) false)).1, AV.int IntKind.i64 (0 : Int)] []
 [])))))) := by kernel_rfl
end Go.Proofs.YtnhipiedjekkpaaGreatDoor.AX
end
section
namespace Go.Proofs.YtnhipiedjekkpaaGreatDoor.AXP
open Go Go.Proofs.YtnhipiedjekkpaaGreatDoor.AX
theorem rNum_sp (m : Int) (s : RS) : rNum m s = (nV m s.b, ⟨nB m s.b, s.room, s.bad || nE m s.b⟩) := by
  unfold nV nB nE rNum
  dsimp only
  cases takeN (kb s.b) with
  | none => simp
  | some p =>
    obtain ⟨n, r⟩ := p
    dsimp only
    by_cases h : (n : Int) > m
    · simp only [if_pos h, Bool.or_true]
    · simp only [if_neg h, Bool.or_false]
theorem rTxt_sp (s : RS) : rTxt s = (tV s.b, ⟨tB s.b, s.room, s.bad || tE s.b⟩) := by
  unfold tV tB tE rTxt
  dsimp only
  cases takeT (kb s.b) with
  | none => simp
  | some p => simp
theorem rAtts_sp : ∀ (c : Nat) (s : RS), rAtts c s = ((rAtts c ⟨s.b, 0, s.bad⟩).1, ⟨(rAtts c ⟨s.b, 0, s.bad⟩).2.b, s.room, (rAtts c ⟨s.b, 0, s.bad⟩).2.bad⟩)
  | 0, s => rfl
  | c + 1, s => by
    rw [rAtts, rAtts]
    cases hb : s.bad with
    | true =>
      simp only [if_true]
      rw [← hb]
    | false =>
      simp only [Bool.false_eq_true, if_false]
      rw [rTxt_sp s, rTxt_sp ⟨s.b, 0, false⟩]
      dsimp only
      rw [hb]
      rw [rTxt_sp ⟨tB s.b, s.room, false || tE s.b⟩, rTxt_sp ⟨tB s.b, 0, false || tE s.b⟩]
      dsimp only
      rw [rAtts_sp c ⟨tB (tB s.b), s.room, _⟩]
theorem a_zero (b : ByteArray) (e : Bool) : aL 0 b e = [] ∧ aB 0 b e = b ∧ aE 0 b e = e := ⟨rfl, rfl, rfl⟩
theorem a_bad (k : Nat) (b : ByteArray) : aL k b true = [] ∧ aB k b true = b ∧ aE k b true = true := by
  unfold aL aB aE
  rw [Int.toNat_natCast]
  cases k <;> exact ⟨rfl, rfl, rfl⟩
theorem a_step (k : Nat) (b : ByteArray) : aL ((k + 1 : Nat) : Int) b false = ⟨tV b, tV (tB b)⟩ :: aL k (tB (tB b)) (false || tE b || tE (tB b)) ∧ aB ((k + 1 : Nat) : Int) b false = aB k (tB (tB b)) (false || tE b || tE (tB b)) ∧ aE ((k + 1 : Nat) : Int) b false = aE k (tB (tB b)) (false || tE b || tE (tB b)) := by
  unfold aL aB aE
  rw [Int.toNat_natCast, Int.toNat_natCast, rAtts]
  simp only [Bool.false_eq_true, if_false]
  rw [rTxt_sp ⟨b, 0, false⟩]
  dsimp only
  rw [rTxt_sp ⟨tB b, 0, false || tE b⟩]
  exact ⟨rfl, rfl, rfl⟩
theorem nV_range {m : Int} (h : 0 ≤ m) (b : ByteArray) : 0 ≤ nV m b ∧ nV m b ≤ m := by
  unfold nV rNum
  dsimp only
  split
  · split
    · exact ⟨Int.le_refl _, h⟩
    · dsimp only; omega
  · exact ⟨Int.le_refl _, h⟩
theorem rNode_sp (rk : RS → List Nd × RS) (b : ByteArray) (r : Int) (e : Bool) : rNode rk ⟨b, r, e⟩ =
    if (nV 3 b == 2 || nV 3 b == 3) = true then (⟨nV 3 b, 0, bk [], [], tV (nB 3 b), []⟩, ⟨tB (nB 3 b), r, e || nE 3 b || tE (nB 3 b)⟩)
    else
      (⟨nV 3 b, nV 2 (nB 3 b), tV (nB 2 (nB 3 b)), aL (nV 12 (tB (nB 2 (nB 3 b)))) (nB 12 (tB (nB 2 (nB 3 b)))) (e || nE 3 b || nE 2 (nB 3 b) || tE (nB 2 (nB 3 b)) || nE 12 (tB (nB 2 (nB 3 b)))), bk [],
        (rk ⟨aB (nV 12 (tB (nB 2 (nB 3 b)))) (nB 12 (tB (nB 2 (nB 3 b)))) (e || nE 3 b || nE 2 (nB 3 b) || tE (nB 2 (nB 3 b)) || nE 12 (tB (nB 2 (nB 3 b)))), r, aE (nV 12 (tB (nB 2 (nB 3 b)))) (nB 12 (tB (nB 2 (nB 3 b)))) (e || nE 3 b || nE 2 (nB 3 b) || tE (nB 2 (nB 3 b)) || nE 12 (tB (nB 2 (nB 3 b))))⟩).1⟩,
        (rk ⟨aB (nV 12 (tB (nB 2 (nB 3 b)))) (nB 12 (tB (nB 2 (nB 3 b)))) (e || nE 3 b || nE 2 (nB 3 b) || tE (nB 2 (nB 3 b)) || nE 12 (tB (nB 2 (nB 3 b)))), r, aE (nV 12 (tB (nB 2 (nB 3 b)))) (nB 12 (tB (nB 2 (nB 3 b)))) (e || nE 3 b || nE 2 (nB 3 b) || tE (nB 2 (nB 3 b)) || nE 12 (tB (nB 2 (nB 3 b))))⟩).2) := by
  unfold rNode
  rw [rNum_sp 3 ⟨b, r, e⟩]
  dsimp only
  rw [rTxt_sp ⟨nB 3 b, r, e || nE 3 b⟩, rNum_sp 2 ⟨nB 3 b, r, e || nE 3 b⟩]
  dsimp only
  rw [rTxt_sp ⟨nB 2 (nB 3 b), r, _⟩]
  dsimp only
  rw [rNum_sp 12 ⟨tB (nB 2 (nB 3 b)), r, _⟩]
  dsimp only
  rw [rAtts_sp]
  rfl
theorem rNode_room {rk : RS → List Nd × RS} (hr : ∀ s, 0 ≤ s.room → 0 ≤ (rk s).2.room ∧ (rk s).2.room ≤ s.room) (s : RS) (h : 0 ≤ s.room) : 0 ≤ (rNode rk s).2.room ∧ (rNode rk s).2.room ≤ s.room := by
  obtain ⟨b, r, e⟩ := s
  rw [rNode_sp]
  split
  · exact ⟨h, Int.le_refl _⟩
  · exact hr _ h
theorem rMany_room {f : RS → Nd × RS} (hf : ∀ s, 0 ≤ s.room → 0 ≤ (f s).2.room ∧ (f s).2.room ≤ s.room) : ∀ (c : Nat) (s : RS), 0 ≤ s.room → 0 ≤ (rMany f c s).2.room ∧ (rMany f c s).2.room ≤ s.room
  | 0, s, h => ⟨h, Int.le_refl _⟩
  | c + 1, s, h => by
    rw [rMany]
    split
    · exact ⟨h, Int.le_refl _⟩
    · have h1 := hf s h
      have h2 := rMany_room hf c (f s).2 h1.1
      exact ⟨h2.1, by dsimp only; omega⟩
theorem rNds_room : ∀ (k : Nat) (d : Int) (s : RS), 0 ≤ s.room → 0 ≤ (rNds k d s).2.room ∧ (rNds k d s).2.room ≤ s.room
  | 0, d, s, h => ⟨h, Int.le_refl _⟩
  | k + 1, d, s, h => by
    rw [rNds]
    have hn := nV_range h s.b
    have e : (rHead d s).room = s.room - nV s.room s.b := by unfold rHead; rw [rNum_sp]
    have := rMany_room (rNode_room (rNds_room k (d + 1))) (rNum s.room s).1.toNat (rHead d s) (by omega)
    exact ⟨this.1, by omega⟩
end Go.Proofs.YtnhipiedjekkpaaGreatDoor.AXP
namespace Go.Proofs.YtnhipiedjekkpaaGreatDoor.AX
open Go AXP
set_option maxRecDepth 100000
theorem rNum_holds : Holds 134 conRNum := by
  intro args hp ans hc
  unfold conRNum at hc
  split at hc
  case h_2 => cases hc
  rename_i m b r e
  injection hc with hc
  subst hc
  refine fun_meets0 (AllH.tok (.cons tkN_holds (by kernel_rfl) (.cons tkT_holds (by kernel_rfl) .nil))) [] (by kernel_rfl) (by kernel_rfl) fun _ => Eq.mpr (vcRNumF m r b e _) ?_
  have q : ∀ v b' e', (nV m b, nB m b, nE m b) = (v, b', e') → FinQ { res := .int .i64 (nV m b), hp := [.box [.str (nB m b), .int .i64 r, .bool (e || nE m b)]] } [.int .i64 v] [.box [.str b', .int .i64 r, .bool (e || e')]] [] := fun v b' e' h => by
    injection h with h1 h
    injection h with h2 h3
    rw [h1, h2, h3]
    exact qfin rfl rfl rfl rfl
  cases ht : takeN (kb b) with
  | none =>
    have e1 : tkE b = 4 := by unfold tkE; rw [ht]
    rw [e1]
    refine ⟨fun _ => ?_, fun h => absurd h (by decide)⟩
    have := q 0 b true (by unfold nV nB nE rNum; rw [ht])
    rw [Bool.or_true] at this
    exact this
  | some p =>
    obtain ⟨n, t⟩ := p
    have e1 : tkE b = 0 := by unfold tkE; rw [ht]
    have e2 : tkN b = n := by unfold tkN; rw [ht]
    have e3 : tkR b = bk t := by unfold tkR; rw [ht]
    rw [e1, e2, e3]
    refine ⟨fun h => absurd h (by decide), fun _ => ⟨fun h => ?_, fun h => ?_⟩⟩
    · have h := of_decide_eq_true h
      have := q 0 b true (by unfold nV nB nE rNum; rw [ht]; simp only [if_pos h])
      rw [Bool.or_true] at this
      exact this
    · have h := of_decide_eq_false h
      have := q n (bk t) false (by unfold nV nB nE rNum; rw [ht]; simp only [if_neg h])
      rw [Bool.or_false] at this
      exact this
theorem rTxt_holds : Holds 145 conRTxt := by
  intro args hp ans hc
  unfold conRTxt at hc
  split at hc
  case h_2 => cases hc
  rename_i b r e
  injection hc with hc
  subst hc
  refine fun_meets0 (AllH.tok (.cons tkN_holds (by kernel_rfl) (.cons tkT_holds (by kernel_rfl) .nil))) [] (by kernel_rfl) (by kernel_rfl) fun _ => Eq.mpr (vcRTxtF r b e _) ?_
  have q : ∀ v b' e', (tV b, tB b, tE b) = (v, b', e') → FinQ { res := .str (tV b), hp := [.box [.str (tB b), .int .i64 r, .bool (e || tE b)]] } [.str v] [.box [.str b', .int .i64 r, .bool (e || e')]] [] := fun v b' e' h => by
    injection h with h1 h
    injection h with h2 h3
    rw [h1, h2, h3]
    exact qfin rfl rfl rfl rfl
  cases ht : takeT (kb b) with
  | none =>
    have e1 : ttE b = 4 := by unfold ttE; rw [ht]
    rw [e1]
    refine ⟨fun _ => ?_, fun h => absurd h (by decide)⟩
    have := q (bk []) b true (by unfold tV tB tE rTxt; rw [ht])
    rw [Bool.or_true] at this
    exact this
  | some p =>
    obtain ⟨n, t⟩ := p
    have e1 : ttE b = 0 := by unfold ttE; rw [ht]
    have e2 : ttS b = bk n := by unfold ttS; rw [ht]
    have e3 : ttR b = bk t := by unfold ttR; rw [ht]
    rw [e1, e2, e3]
    refine ⟨fun h => absurd h (by decide), fun _ => ?_⟩
    have := q (bk n) (bk t) false (by unfold tV tB tE rTxt; rw [ht])
    rw [Bool.or_false] at this
    exact this
def blRN (r z0 z1 c0 c1 : Int) (z2 z4 c2 c4 b : ByteArray) (e : Bool) : List At → List Blk
  | [] => [.box [.str b, .int .i64 r, .bool e], .box [.int .i64 z0, .int .i64 z1, .str z2, .nil, .str z4, .nil], .box [.int .i64 c0, .int .i64 c1, .str c2, .nil, .str c4, .nil]]
  | x :: l => [.box [.str b, .int .i64 r, .bool e], .box [.int .i64 z0, .int .i64 z1, .str z2, .nil, .str z4, .nil], .box [.int .i64 c0, .int .i64 c1, .str c2, .own 3 0, .str c4, .nil], .rowb 0 .attr (x :: l)]
theorem rNode_sum (j : Nat) : SumOK (cxRNode j) (LL Tryz.f135 [lsRNode]) Tryz.f135.ntmps (loopAt Tryz.f135 0).1 (loopAt Tryz.f135 0).2 lsRNode := by
  intro vs bs K hs
  unfold lsRNode at hs
  simp only at hs
  split at hs
  case h_2 => exact hs.elim
  rename_i d k b r e z0 z1 z2 z4 c0 c1 c2 c4
  obtain ⟨⟨hk0, hk⟩, h⟩ := hs
  obtain ⟨k, rfl⟩ := Int.eq_ofNat_of_zero_le hk0
  refine sum_rec (σ := Nat × ByteArray × Bool × List At) (fun s => [.ptr 0 0, .int .i64 d, .ptr 1 0, .ptr 2 0, .int .i64 (s.1 : Nat)]) (fun s => blRN r z0 z1 c0 c1 z2 z4 c2 c4 s.2.1 s.2.2.1 s.2.2.2) (fun s => s.2.2.2 ++ aL s.1 s.2.1 s.2.2.1 = aL k b e ∧ aB s.1 s.2.1 s.2.2.1 = aB k b e ∧ aE s.1 s.2.1 s.2.2.1 = aE k b e ∧ s.1 + s.2.2.2.length ≤ 12) (fun s => s.1) ?_ (k, b, e, []) ⟨rfl, rfl, rfl, by dsimp only; simp only [List.length_nil]; omega⟩
  rintro ⟨i, b', e', acc⟩ ⟨h1, h2, h3, h4⟩ R hR
  dsimp only at h1 h2 h3 h4 hR ⊢
  have fin : aL (i : Int) b' e' = [] → aB (i : Int) b' e' = b' → aE (i : Int) b' e' = e' → K (.exit 0) [.ptr 0 0, .int .i64 d, .ptr 1 0, .ptr 2 0] (blRN r z0 z1 c0 c1 z2 z4 c2 c4 b' e' acc) := fun q1 q2 q3 => by
    rw [q1, List.append_nil] at h1
    rw [← h1, ← h2, ← h3, q2, q3] at h
    cases acc with
    | nil => exact h.yes rfl
    | cons x l => exact h.no rfl
  have next : ∀ i', i = i' + 1 → e' = false → R [.ptr 0 0, .int .i64 d, .ptr 1 0, .ptr 2 0, .int .i64 (IntKind.i64.wrap ((i : Int) - 1))] (blRN r z0 z1 c0 c1 z2 z4 c2 c4 (tB (tB b')) (e' || tE b' || tE (tB b')) (acc ++ [⟨tV b', tV (tB b')⟩])) := fun i' q1 q2 => by
    subst q1; subst q2
    obtain ⟨s1, s2, s3⟩ := a_step i' b'
    have ew : IntKind.i64.wrap (((i' + 1 : Nat) : Int) - 1) = (i' : Int) := by rw [wrap_id'] <;> omega
    rw [ew]
    refine hR (i', tB (tB b'), (false || tE b' || tE (tB b')), acc ++ [⟨tV b', tV (tB b')⟩]) ⟨?_, ?_, ?_, ?_⟩ (by dsimp only; omega)
    · dsimp only
      rw [List.append_assoc]
      show acc ++ (⟨tV b', tV (tB b')⟩ :: aL i' (tB (tB b')) (false || tE b' || tE (tB b'))) = _
      rw [← s1, h1]
    · dsimp only; rw [← s2, h2]
    · dsimp only; rw [← s3, h3]
    · dsimp only; rw [List.length_append]; simp only [List.length_cons, List.length_nil]; omega
  have z := a_zero b' e'
  have y := a_bad i b'
  have hmx : maxSl = 140737488355328 := rfl
  cases acc with
  | nil =>
    refine Eq.mpr (vcRNode0 j d r i z0 z1 c0 c1 b' z2 z4 c2 c4 e' _) ⟨fun q => ⟨fun q2 => Rq.mk (show 1 * 32 ≤ maxSl by decide) ?_, fun q2 => ?_⟩, fun q => ?_⟩
    · have q := of_decide_eq_true q
      exact next (i - 1) (by omega) (by simpa using q2)
    · have q2 : e' = true := by simpa using q2
      subst q2
      exact fin y.1 y.2.1 y.2.2
    · have q := of_decide_eq_false q
      obtain rfl : i = 0 := by omega
      exact fin z.1 z.2.1 z.2.2
  | cons x l =>
    refine Eq.mpr (vcRNode1 j d r i z0 z1 c0 c1 b' z2 z4 c2 c4 e' (x :: l) _) ⟨fun q => ⟨fun q2 => Rq.mk ?_ ?_, fun q2 => ?_⟩, fun q => ?_⟩
    · simp only [List.length_cons, List.length_nil] at h4 ⊢; omega
    · have q := of_decide_eq_true q
      exact next (i - 1) (by omega) (by simpa using q2)
    · have q2 : e' = true := by simpa using q2
      subst q2
      exact fin y.1 y.2.1 y.2.2
    · have q := of_decide_eq_false q
      obtain rfl : i = 0 := by omega
      exact fin z.1 z.2.1 z.2.2
theorem rNode_of (k : Nat) (hn : Holds 121 (conRNds k)) : Holds 135 (conRNode k) := by
  intro args hp ans hc
  unfold conRNode at hc
  split at hc
  case h_2 => cases hc
  rename_i d b r e
  injection hc with hc
  subst hc
  refine fun_meets1 (AllH.tok (.cons rNum_holds (by kernel_rfl) (.cons rTxt_holds (by kernel_rfl) (.cons leaf_holds (by kernel_rfl) (.cons hn (by kernel_rfl) .nil))))) [.as, .as, .as, .row .attr, .as, .row .node] lsRNode (by kernel_rfl) (by kernel_rfl) (rNode_sum k) fun hpre => Eq.mpr (vcRNodeF k d r b e _) ?_
  obtain ⟨p1, p2, p3, p4, p5⟩ := hpre _ rfl
  have sp := rNode_sp (rNds k (d + 1)) b r e
  have ew : IntKind.i64.wrap (d + 1) = d + 1 := by rw [wrap_id'] <;> omega
  rw [ew]
  have hr := nV_range (show (0 : Int) ≤ 12 by decide) (tB (nB 2 (nB 3 b)))
  refine ⟨fun h => ?_, fun h => Rq.mk hr ⟨fun h1 => Rq.mk ⟨by omega, by omega, by omega, by omega, by omega⟩ ?_, fun h1 => Rq.mk ⟨by omega, by omega, by omega, by omega, by omega⟩ ?_⟩⟩
  · have h : (nV 3 b == 2 || nV 3 b == 3) = true := h
    rw [if_pos h] at sp
    rw [sp]
    exact qfin rfl rfl rfl rfl
  · rw [if_neg (by rw [show (nV 3 b == 2 || nV 3 b == 3) = false from h]; decide)] at sp
    rw [sp]
    have h1 := List.eq_nil_of_length_eq_zero (of_decide_eq_true h1)
    refine qfin rfl ?_ rfl rfl
    show _ = [AV.agg [_, _, _, _, _, _]]
    rw [h1]; rfl
  · rw [if_neg (by rw [show (nV 3 b == 2 || nV 3 b == 3) = false from h]; decide)] at sp
    rw [sp]
    exact qfin rfl rfl rfl rfl
theorem rNds_sum (k : Nat) : SumOK (cxRNds k) (LL Tryz.f121 [lsRNds k]) Tryz.f121.ntmps (loopAt Tryz.f121 0).1 (loopAt Tryz.f121 0).2 (lsRNds k) := by
  intro vs bs K hs
  unfold lsRNds at hs
  simp only at hs
  split at hs
  case h_2 => exact hs.elim
  rename_i d n i b r e out
  obtain ⟨⟨rfl, ho, hn0, hn, hr0, hr, hb⟩, h⟩ := hs
  have : out = [] := List.eq_nil_of_length_eq_zero ho
  subst this
  obtain ⟨n, rfl⟩ := Int.eq_ofNat_of_zero_le hn0
  rw [Int.toNat_natCast] at h
  have hroom := rNode_room (rNds_room k (d + 1))
  have hst := fun (s : RS) (q : (rNode (rNds k (d + 1)) s).2.bad = false) => rNode_sticky (fun s q => rNds_sticky k (d + 1) s q) q
  generalize hf : rNode (rNds k (d + 1)) = f at h hroom hst
  refine sum_rec (σ := Nat × RS × List Nd) (fun s => [.ptr 0 0, .int .i64 d, .own 1 0, .int .i64 n, .int .i64 (s.1 : Nat)]) (fun s => [.box [.str s.2.1.b, .int .i64 s.2.1.room, .bool s.2.1.bad], .rowb 0 .node s.2.2]) (fun s => s.1 ≤ n ∧ s.2.2 ++ (rMany f (n - s.1) s.2.1).1 = (rMany f n ⟨b, r, e⟩).1 ∧ (rMany f (n - s.1) s.2.1).2 = (rMany f n ⟨b, r, e⟩).2 ∧ 0 ≤ s.2.1.room ∧ s.2.1.room ≤ 300 ∧ s.2.2.length ≤ s.1 ∧ (s.2.1.bad = false → (42 - d).toNat < k ∧ 1 ≤ d ∧ d ≤ 41)) (fun s => n - s.1) ?_ (0, ⟨b, r, e⟩, []) ⟨Nat.zero_le _, rfl, rfl, hr0, hr, Nat.le_refl _, hb⟩
  rintro ⟨i, ⟨b', r', e'⟩, acc⟩ ⟨h1, h2, h3, h4, h5, h6, h7⟩ R hR
  dsimp only at h1 h2 h3 h4 h5 h6 h7 hR ⊢
  have fin : rMany f (n - i) ⟨b', r', e'⟩ = ([], ⟨b', r', e'⟩) → K (.exit 0) [.ptr 0 0, .own 1 0] [.box [.str b', .int .i64 r', .bool e'], .rowb 0 .node acc] := fun q => by
    rw [q] at h2 h3
    rw [List.append_nil] at h2
    rw [← h2, ← h3] at h
    exact h
  refine Eq.mpr (vcRNdsB k d r' n i b' e' acc _) ⟨fun q => ⟨fun q2 => ?_, fun q2 => fin ?_⟩, fun q => fin ?_⟩
  · have q := of_decide_eq_true q
    have q2 : e' = false := by simpa using q2
    subst q2
    obtain ⟨g1, g2, g3⟩ := h7 rfl
    simp only [nd_eta]
    rw [hf]
    obtain ⟨c, hc⟩ : ∃ c, n - i = c + 1 := ⟨n - i - 1, by omega⟩
    have hstep : rMany f (n - i) ⟨b', r', false⟩ = ((f ⟨b', r', false⟩).1 :: (rMany f c (f ⟨b', r', false⟩).2).1, (rMany f c (f ⟨b', r', false⟩).2).2) := by
      rw [hc, rMany, if_neg (show ¬ (RS.mk b' r' false).bad = true from Bool.false_ne_true)]
    rw [hstep] at h2 h3
    have hm := hroom ⟨b', r', false⟩ h4
    have hmx : maxSl = 140737488355328 := rfl
    refine Rq.mk ⟨g1, h4, h5, g2, g3⟩ (Rq.mk ?_ ?_)
    · simp only [List.length_cons, List.length_nil]; omega
    · have ew : IntKind.i64.wrap ((i : Int) + 1) = ((i + 1 : Nat) : Int) := by rw [wrap_id'] <;> omega
      rw [ew]
      refine hR (i + 1, (f ⟨b', r', false⟩).2, acc ++ [(f ⟨b', r', false⟩).1]) ⟨?_, ?_, ?_, hm.1, ?_, ?_, fun _ => ⟨g1, g2, g3⟩⟩ (by dsimp only; omega)
      · dsimp only; omega
      · dsimp only
        rw [show n - (i + 1) = c by omega, List.append_assoc]
        exact h2
      · dsimp only
        rw [show n - (i + 1) = c by omega]
        exact h3
      · have := hm.2
        dsimp only at this ⊢; omega
      · dsimp only; rw [List.length_append]; simp only [List.length_cons, List.length_nil]; omega
  · have q2 : e' = true := by simpa using q2
    subst q2
    cases n - i with
    | zero => rfl
    | succ c => rw [rMany, if_pos rfl]
  · have q := of_decide_eq_false q
    rw [show n - i = 0 by omega]; rfl
theorem rNds_lt : ∀ k, Holds 121 (conRNds k)
  | 0 => by
    intro args hp ans hc
    unfold conRNds at hc
    split at hc
    case h_2 => cases hc
    injection hc with hc
    subst hc
    intro F I w vals hH hv hpre
    exact absurd (hpre _ rfl).1 (Nat.not_lt_zero _)
  | k + 1 => by
    intro args hp ans hc
    unfold conRNds at hc
    split at hc
    case h_2 => cases hc
    rename_i d b r e
    injection hc with hc
    subst hc
    refine fun_meets1 (AllH.tok (.cons rNum_holds (by kernel_rfl) (.cons (rNode_of k (rNds_lt k)) (by kernel_rfl) .nil))) [.own .node] (lsRNds k) (by kernel_rfl) (by kernel_rfl) (rNds_sum k) fun hpre => Eq.mpr (vcRNdsF k d r b e _) ?_
    obtain ⟨p1, p2, p3, p4, p5⟩ := hpre _ rfl
    have hn := nV_range p2 b
    have ew : IntKind.i64.wrap (r - nV r b) = r - nV r b := by rw [wrap_id'] <;> omega
    have sp : rNds (k + 1) d ⟨b, r, e⟩ = rMany (rNode (rNds k (d + 1))) (nV r b).toNat ⟨nB r b, r - nV r b, (e || nE r b) || decide (d > 41)⟩ := by
      rw [rNds]
      unfold rHead
      rw [rNum_sp]
    rw [ew, sp]
    refine ⟨fun h => Rq.mk ⟨rfl, rfl, hn.1, by omega, by omega, by omega, fun q => (nomatch q)⟩ ?_, fun h => Rq.mk ⟨rfl, rfl, hn.1, by omega, by omega, by omega, fun _ => ?_⟩ ?_⟩
    · rw [h, Bool.or_true]
      exact qfin rfl rfl rfl rfl
    · have h := of_decide_eq_false h
      exact ⟨by omega, by omega, by omega⟩
    · rw [h, Bool.or_false]
      exact qfin rfl rfl rfl rfl
def conRead : Con := conP [.str] fun (b : ByteArray) => { pre := some (rdPre b), res := .tup [.row .node (rdL b), .int .i64 (rdE b)] }
theorem read_holds : Holds 99 conRead := conP_holds fun b => by
  rcases (show ∃ w : ByteArray, w = b from ⟨_, rfl⟩) with ⟨b, rfl⟩
  refine fun_meets0 (AllH.tok (.cons (rNds_lt 43) (by kernel_rfl) (.cons chk_holds (by kernel_rfl) .nil))) [.row .node, .as] (by kernel_rfl) (by kernel_rfl) fun hpre => Eq.mpr (vcReadF b _) ?_
  have hf : (rdS b).2.bad = false → (rdS b).2.b.size = 0 → fineNds (rdS b).1 := hpre _ rfl
  show Rq _ (Br (rdS b).2.bad _ (Br (!eqS (rdS b).2.b (ByteArray.mk (Array.mk []))) _ (Rq (fineNds (rdS b).1) (Br (checkS (rdS b).1 != 0) _ _))))
  have no : rdOK b = false → FinQ { pre := some (rdPre b), res := .tup [.row .node (rdL b), .int .i64 (rdE b)] } [AV.row Ty.node [], AV.int .i64 4] [] [] := fun h => by
    refine qfin rfl ?_ rfl rfl
    show _ = [AV.row Ty.node (rdL b), AV.int .i64 (rdE b)]
    unfold rdL rdE; rw [h]; rfl
  refine Rq.mk ⟨by decide, by decide, by decide, by decide, by decide⟩ ⟨fun h => no ?_, fun h => ⟨fun h1 => no ?_, fun h1 => Rq.mk (hf h ?_) ⟨fun h2 => no ?_, fun h2 => ?_⟩⟩⟩
  · unfold rdOK; rw [h]; rfl
  · have h1 : eqS (rdS b).2.b ⟨#[]⟩ = false := by rw [← Bool.not_eq_true']; exact h1
    unfold rdOK; rw [h1, Bool.and_false]; rfl
  · have h1 : eqS (rdS b).2.b ⟨#[]⟩ = true := by rw [← Bool.not_eq_false']; exact h1
    exact eqS_nil.1 h1
  · have h2 : (checkS (rdS b).1 == 0) = false := by simpa using h2
    unfold rdOK; rw [h2, Bool.and_false]
  · have h1 : eqS (rdS b).2.b ⟨#[]⟩ = true := by rw [← Bool.not_eq_false']; exact h1
    have h2 : (checkS (rdS b).1 == 0) = true := by simpa using h2
    have ok : rdOK b = true := by unfold rdOK; rw [h, h1, h2]; rfl
    refine qfin rfl ?_ rfl rfl
    show _ = [AV.row Ty.node (rdL b), AV.int .i64 (rdE b)]
    unfold rdL rdE; rw [ok]; rfl
end Go.Proofs.YtnhipiedjekkpaaGreatDoor.AX
end
section
namespace Go.Proofs.YtnhipiedjekkpaaGreatDoor.AXP
open Go Go.Proofs.YtnhipiedjekkpaaGreatDoor.AX
end Go.Proofs.YtnhipiedjekkpaaGreatDoor.AXP
end
section
namespace Go.Proofs.YtnhipiedjekkpaaGreatDoor.AXP
open Go Go.Proofs.YtnhipiedjekkpaaGreatDoor.AX
end Go.Proofs.YtnhipiedjekkpaaGreatDoor.AXP
namespace Go.Proofs.YtnhipiedjekkpaaGreatDoor.AX
open Go AXP
end Go.Proofs.YtnhipiedjekkpaaGreatDoor.AX
end
section
namespace Go.Proofs.YtnhipiedjekkpaaGreatDoor.AX
open Go AXP
set_option maxRecDepth 100000
end Go.Proofs.YtnhipiedjekkpaaGreatDoor.AX
end
section
namespace Go.Proofs.YtnhipiedjekkpaaGreatDoor.AXP
open Go Go.Proofs.YtnhipiedjekkpaaGreatDoor.AX
end Go.Proofs.YtnhipiedjekkpaaGreatDoor.AXP
namespace Go.Proofs.YtnhipiedjekkpaaGreatDoor.AX
open Go Go.RowKit AXP
set_option maxRecDepth 100000
end Go.Proofs.YtnhipiedjekkpaaGreatDoor.AX
end
section
namespace Go.Proofs.YtnhipiedjekkpaaGreatDoor.AXP
open Go Go.Proofs.YtnhipiedjekkpaaGreatDoor.AX
/-! ### Bounds -/
theorem attF_kb : ∀ (a : List At) (t : ByteArray), (∀ x ∈ a, x.name.size ≤ 65536 ∧ x.value.size ≤ 65536) → kb (attF t a) = kb t ++ attL a
  | [], t, _ => by rw [attF, attL, List.append_nil]
  | x :: l, t, h => by
    obtain ⟨h1, h2⟩ := h x (.head _)
    rw [attF, attF_kb l _ fun y hy => h y (.tail _ hy), attL]
    unfold txtQ
    rw [if_pos h1, if_pos h2, kb_app, kb_app, kb_bk, kb_bk]
    simp only [List.append_assoc]
theorem putG_kb : ∀ (l : List Nd) (b : ByteArray), (∀ x ∈ l, ∀ b, kb (putN b x) = kb b ++ ndL x) → kb (putG b l) = kb b ++ ndsL l
  | [], b, _ => by rw [putG, ndsL, List.append_nil]
  | n :: l, b, h => by
    rw [putG, putG_kb l _ fun x hx => h x (.tail _ hx), h n (.head _), ndsL, List.append_assoc]
theorem putF_kb {l : List Nd} (hl : l.length ≤ 300) (b : ByteArray) (h : ∀ x ∈ l, ∀ b, kb (putN b x) = kb b ++ ndL x) : kb (putF b l) = kb b ++ bytesL l := by
  unfold putF bytesL
  rw [putG_kb l _ h, kb_app, numS_nat (by omega), kb_bk, List.append_assoc]
theorem putN_kb : ∀ (d : Nat) (n : Nd), fitN d n → ∀ b, kb (putN b n) = kb b ++ ndL n := by
  intro d
  induction d with
  | zero =>
    intro n h b
    rw [fitN_eq] at h
    obtain ⟨⟨j, hj, hj3⟩, h⟩ := h
    rw [putN_eq, ndL_eq, hj, numS_nat (by omega), Int.toNat_natCast]
    by_cases hlf : leafB n = true
    · rw [if_pos hlf] at h ⊢
      rw [if_pos hlf]
      unfold txtQ
      rw [if_pos h.2.2.2.2, kb_app, kb_app, kb_bk, kb_bk, List.append_assoc]
    · rw [if_neg hlf] at h
      exact h.2.2.2.2.2.2.elim
  | succ d ih =>
    intro n h b
    rw [fitN_eq] at h
    obtain ⟨⟨j, hj, hj3⟩, h⟩ := h
    rw [putN_eq, ndL_eq, hj, numS_nat (by omega), Int.toNat_natCast]
    by_cases hlf : leafB n = true
    · rw [if_pos hlf] at h ⊢
      rw [if_pos hlf]
      unfold txtQ
      rw [if_pos h.2.2.2.2, kb_app, kb_app, kb_bk, kb_bk, List.append_assoc]
    · rw [if_neg hlf] at h ⊢
      rw [if_neg hlf]
      obtain ⟨⟨i, hi, hi2⟩, _, hm, ha, hat, hc, hk⟩ := h
      rw [putF_kb hc _ fun x hx b => ih x (hk x hx) b, attF_kb _ _ hat, hi, numS_nat (by omega), numS_nat (by omega), Int.toNat_natCast]
      unfold txtQ
      rw [if_pos hm]
      simp only [kb_app, kb_bk, List.append_assoc]
/-! ### What is right can be written -/
theorem wrong_zero {m : ByteArray} {a : List At} (h : wrongE m a = 0) : nameB m = true ∧ a.all okA = true ∧ a.length ≤ 12 := by
  unfold wrongE at h
  rw [wrong_all] at h
  split at h
  · cases h
  rename_i h1
  split at h
  · cases h
  rename_i h2
  split at h
  · cases h
  split at h
  · cases h
  exact ⟨by simpa using h1, by simpa using h2, by omega⟩
theorem dp_mem : ∀ {l : List Nd} {x : Nd}, x ∈ l → dpR x ≤ dpRs l
  | n :: l, x, h => by
    rw [dpRs]
    cases h with
    | head => split <;> omega
    | tail _ h => have := dp_mem h; split <;> omega
theorem all_mem : ∀ {l : List Nd} {x : Nd}, allBs l = true → x ∈ l → allB x = true
  | n :: l, x, h, hx => by
    rw [allBs, Bool.and_eq_true] at h
    cases hx with
    | head => exact h.1
    | tail _ hx => exact all_mem h.2 hx
theorem lon_mem : ∀ {l : List Nd} {x : Nd}, lonNds l = false → x ∈ l → lonNd x = false
  | n :: l, x, h, hx => by
    rw [lonNds, Bool.or_eq_false_iff] at h
    cases hx with
    | head => exact h.1
    | tail _ hx => exact lon_mem h.2 hx
theorem allB_eq (n : Nd) : allB n = (rightB n && !joinB n.kids && allBs n.kids) := by cases n; rw [allB]
theorem lonNd_eq (n : Nd) : lonNd n = (longN n || lonNds n.kids) := by cases n; rw [lonNd]
theorem dpR_eq (n : Nd) : dpR n = if (decide (dpRs n.kids > 0) || !leafB n) = true then dpRs n.kids + 1 else dpRs n.kids := by cases n; rw [dpR]; rfl
theorem eqS_bk {s : ByteArray} (h : eqS s ⟨#[]⟩ = true) : s = bk [] := eqS_iff.1 h
theorem fit_of : ∀ (d : Nat) (n : Nd), allB n = true → lonNd n = false → dpR n ≤ d → cntNd n ≤ 301 → fitN d n := by
  intro d
  induction d with
  | zero =>
    intro n h1 h2 h3 h4
    rw [fitN_eq]
    rw [allB_eq] at h1
    rw [lonNd_eq] at h2
    simp only [Bool.and_eq_true, Bool.or_eq_false_iff] at h1 h2
    have hd := dpRs_nn n.kids
    by_cases hlf : leafB n = true
    · have hr := h1.1.1
      unfold rightB at hr
      rw [if_pos hlf] at hr
      simp only [Bool.and_eq_true, beq_iff_eq] at hr
      obtain ⟨⟨⟨⟨⟨r1, r2⟩, r3⟩, r4⟩, r5⟩, r6⟩ := hr
      have hk : n.kind = 2 ∨ n.kind = 3 := by unfold leafB at hlf; simpa using hlf
      have hl := h2.1
      unfold longN at hl
      rw [Bool.or_eq_false_iff, decide_eq_false_iff_not] at hl
      refine ⟨by rcases hk with h | h <;> rw [h]; exact ⟨2, rfl, by decide⟩; exact ⟨3, rfl, by decide⟩, ?_⟩
      rw [if_pos hlf]
      exact ⟨r1, eqS_bk r2, List.eq_nil_of_length_eq_zero r3, List.eq_nil_of_length_eq_zero r4, by omega⟩
    · rw [dpR_eq, if_pos (by simp [hlf])] at h3
      omega
  | succ d ih =>
    intro n h1 h2 h3 h4
    rw [fitN_eq]
    rw [allB_eq] at h1
    rw [lonNd_eq] at h2
    simp only [Bool.and_eq_true, Bool.or_eq_false_iff] at h1 h2
    have hr := h1.1.1
    have hl := h2.1
    unfold longN at hl
    rw [Bool.or_eq_false_iff, decide_eq_false_iff_not, List.any_eq_false] at hl
    unfold rightB at hr
    by_cases hlf : leafB n = true
    · rw [if_pos hlf] at hr
      simp only [Bool.and_eq_true, beq_iff_eq] at hr
      obtain ⟨⟨⟨⟨⟨r1, r2⟩, r3⟩, r4⟩, r5⟩, r6⟩ := hr
      have hk : n.kind = 2 ∨ n.kind = 3 := by unfold leafB at hlf; simpa using hlf
      refine ⟨by rcases hk with h | h <;> rw [h]; exact ⟨2, rfl, by decide⟩; exact ⟨3, rfl, by decide⟩, ?_⟩
      rw [if_pos hlf]
      exact ⟨r1, eqS_bk r2, List.eq_nil_of_length_eq_zero r3, List.eq_nil_of_length_eq_zero r4, by omega⟩
    · rw [if_neg hlf] at hr
      simp only [Bool.and_eq_true, beq_iff_eq, decide_eq_true_eq] at hr
      obtain ⟨⟨⟨⟨r1, r2⟩, r3⟩, r4⟩, r5⟩ := hr
      obtain ⟨w1, w2, w3⟩ := wrong_zero r5
      rw [dpR_eq, if_pos (by simp [hlf])] at h3
      rw [cntNd_eq] at h4
      have hlen := cnt_len n.kids
      refine ⟨⟨1, r1, by decide⟩, ?_⟩
      rw [if_neg hlf]
      refine ⟨⟨n.space.toNat, by omega, by omega⟩, eqS_bk r4, by have := nameB_le w1; omega, w3, fun x hx => ?_, by omega, fun x hx => ?_⟩
      · have hx1 := List.all_eq_true.1 w2 x hx
        have := nameB_le (okA_iff.1 hx1).1
        have hx2 := hl.2 x hx
        unfold bigA at hx2
        rw [decide_eq_true_eq] at hx2
        omega
      · have e1 := dp_mem hx
        have e2 := cnt_memN hx
        exact ih x (all_mem h1.2 hx) (lon_mem h2.2 hx) (by omega) (by omega)
theorem check_zero {l : List Nd} (h : checkS l = 0) : cntNds l ≤ 300 ∧ dpRs l ≤ 40 ∧ allBs l = true := by
  unfold checkS at h
  split at h
  · cases h
  rename_i h1
  split at h
  · rename_i h2
    simp only [Bool.or_eq_true, decide_eq_true_eq, not_or, Bool.and_eq_true] at h1 h2
    rw [depth_eq] at h1
    exact ⟨by omega, by omega, h2.2⟩
  · cases h
theorem bytE_zero {l : List Nd} (h : bytE l = 0) : checkS l = 0 ∧ lonNds l = false := by
  unfold bytE at h
  split at h
  · rename_i h1
    split at h
    · cases h
    · rename_i h2
      exact ⟨h1, by simpa using h2⟩
  · rename_i h1
    exact absurd h h1
theorem fit_all {l : List Nd} (h : bytE l = 0) : l.length ≤ 300 ∧ ∀ x ∈ l, fitN 40 x := by
  obtain ⟨h1, h2⟩ := bytE_zero h
  obtain ⟨h3, h4, h5⟩ := check_zero h1
  have := cnt_len l
  refine ⟨by omega, fun x hx => fit_of 40 x (all_mem h5 hx) (lon_mem h2 hx) ?_ ?_⟩
  · have := dp_mem hx; omega
  · have := cnt_memN hx; omega
theorem bytS_eq {l : List Nd} (h : bytE l = 0) : bytS l = bk (bytesL l) := by
  obtain ⟨h1, h2⟩ := fit_all h
  unfold bytS
  rw [if_pos h]
  apply kb_inj
  rw [putF_kb h1 _ fun x hx b => putN_kb 40 x (h2 x hx) b, kb_bk]; rfl
theorem read_bytes {l : List Nd} (h : bytE l = 0) : rdS (bytS l) = (l, ⟨bk [], 300 - cntNds l, false⟩) := by
  obtain ⟨h1, h2⟩ := fit_all h
  have hc := (check_zero (bytE_zero h).1).1
  have hp := pNds_bytes 40 l h1 h2 []
  rw [List.append_nil] at hp
  rw [bytS_eq h]
  unfold rdS
  exact rNds_ok 43 1 ⟨bk (bytesL l), 300, false⟩ l [] (by decide) rfl (by rw [kb_bk]; exact hp) (by dsimp only; omega)
theorem read_bytes_ok {l : List Nd} (h : bytE l = 0) : rdL (bytS l) = l ∧ rdE (bytS l) = 0 := by
  have e : rdOK (bytS l) = true := by
    unfold rdOK
    rw [read_bytes h, (bytE_zero h).1]
    dsimp only
    rw [show eqS (bk []) ⟨#[]⟩ = true from eqS_iff.2 rfl]; rfl
  unfold rdL rdE
  rw [e, read_bytes h]; exact ⟨rfl, rfl⟩
/-! ### What is read -/
theorem takeN_lt {b r : List UInt8} {n : Nat} (h : takeN b = some (n, r)) : r.length < b.length := take_num_lt h
theorem takeT_len {b t r : List UInt8} (h : takeT b = some (t, r)) : t.length + r.length < b.length := by
  obtain ⟨rfl, _⟩ := take_txt_inv h
  unfold txtL numL
  simp only [List.length_append, List.length_cons]; omega
theorem takeT_cap {b t r : List UInt8} (h : takeT b = some (t, r)) : t.length ≤ 65536 := (take_txt_inv h).2
theorem pAtts_len : ∀ {c : Nat} {b r : List UInt8} {l : List At}, pAtts c b = some (l, r) → r.length ≤ b.length ∧ l.length = c ∧ ∀ a ∈ l, a.name.size ≤ 65536 ∧ a.value.size ≤ 65536
  | 0, b, r, l, h => by
    rw [pAtts] at h
    injection h with h
    injection h with e1 e2
    subst e1; subst e2
    exact ⟨Nat.le_refl _, rfl, fun a ha => (nomatch ha)⟩
  | c + 1, b, r, l, h => by
    rw [pAtts] at h
    split at h
    · cases h
    rename_i x r1 h1
    split at h
    · cases h
    rename_i y r2 h2
    split at h
    · cases h
    rename_i l' z h3
    injection h with h
    injection h with e1 e2
    subst e1; subst e2
    have q1 := takeT_len h1
    have q2 := takeT_len h2
    obtain ⟨q3, q4, q5⟩ := pAtts_len h3
    refine ⟨by omega, by rw [List.length_cons, q4], fun a ha => ?_⟩
    cases ha with
    | head =>
      show (bk x).size ≤ _ ∧ (bk y).size ≤ _
      rw [bk_size, bk_size]; exact ⟨takeT_cap h1, takeT_cap h2⟩
    | tail _ ha => exact q5 a ha
theorem bk_nil_size : (bk []).size = 0 := rfl
theorem pNd_len {pk : List UInt8 → Option (List Nd × List UInt8)} (hpk : ∀ b l r, pk b = some (l, r) → cntNds l + r.length ≤ b.length ∧ bndNds l) {b r : List UInt8} {n : Nd} (h : pNd pk b = some (n, r)) : cntNd n + r.length ≤ b.length ∧ bndNd n := by
  unfold pNd at h
  split at h
  · cases h
  rename_i k r0 h0
  have q0 := takeN_lt h0
  split at h
  · cases h
  split at h
  · split at h
    · cases h
    rename_i t z h1
    have q1 := takeT_len h1
    have q1' := takeT_cap h1
    injection h with h
    injection h with e1 e2
    subst e1; subst e2
    rw [cntNd, cntNds, bndNd, bndNds]
    refine ⟨by omega, ⟨by rw [bk_nil_size]; omega, by rw [bk_size]; omega, by simp, fun x hx => (nomatch hx)⟩, trivial⟩
  split at h
  · cases h
  rename_i s r1 h1
  split at h
  · cases h
  rename_i m r2 h2
  split at h
  · cases h
  rename_i c r3 h3
  split at h
  · cases h
  split at h
  · cases h
  rename_i a r4 h4
  split at h
  · cases h
  rename_i l z h5
  injection h with h
  injection h with e1 e2
  subst e1; subst e2
  have q1 := takeN_lt h1
  have q2 := takeT_len h2
  have q2' := takeT_cap h2
  have q3 := takeN_lt h3
  obtain ⟨q4, q5, q8⟩ := pAtts_len h4
  obtain ⟨q6, q7⟩ := hpk _ _ _ h5
  rw [cntNd, bndNd]
  refine ⟨by omega, ⟨by rw [bk_size]; omega, by rw [bk_nil_size]; omega, by omega, q8⟩, q7⟩
theorem pMany_len {f : List UInt8 → Option (Nd × List UInt8)} (hf : ∀ b n r, f b = some (n, r) → cntNd n + r.length ≤ b.length ∧ bndNd n) : ∀ {c : Nat} {b r : List UInt8} {l : List Nd}, pMany f c b = some (l, r) → cntNds l + r.length ≤ b.length ∧ bndNds l
  | 0, b, r, l, h => by
    rw [pMany] at h
    injection h with h
    injection h with e1 e2
    subst e1; subst e2
    rw [cntNds, bndNds]
    exact ⟨by omega, trivial⟩
  | c + 1, b, r, l, h => by
    rw [pMany] at h
    split at h
    · cases h
    rename_i x r1 h1
    split at h
    · cases h
    rename_i l' z h2
    injection h with h
    injection h with e1 e2
    subst e1; subst e2
    obtain ⟨q1, q2⟩ := hf _ _ _ h1
    obtain ⟨q3, q4⟩ := pMany_len hf h2
    rw [cntNds, bndNds]
    exact ⟨by omega, q2, q4⟩
theorem pNds_len : ∀ (d : Nat) (b : List UInt8) (l : List Nd) (r : List UInt8), pNds d b = some (l, r) → cntNds l + r.length ≤ b.length ∧ bndNds l
  | 0, _, _, _, h => by rw [pNds] at h; cases h
  | d + 1, b, l, r, h => by
    rw [pNds] at h
    split at h
    · cases h
    rename_i c r0 h0
    split at h
    · cases h
    have q0 := takeN_lt h0
    obtain ⟨q1, q2⟩ := pMany_len (fun b n r h => pNd_len (pNds_len d) h) h
    exact ⟨by omega, q2⟩
theorem rd_inv {b : ByteArray} (h : (rdS b).2.bad = false) : ∃ r, pNds 41 (kb b) = some ((rdS b).1, r) ∧ (rdS b).2.b = bk r := by
  obtain ⟨r, h1, h2⟩ := rNds_bad 43 1 ⟨b, 300, false⟩ (by decide) (Int.le_refl _) h
  exact ⟨r, h1, by unfold rdS; rw [h2]⟩
theorem rd_fine {b : ByteArray} (h : (rdS b).2.bad = false) : fineNds (rdS b).1 := by
  obtain ⟨r, h1, _⟩ := rd_inv h
  obtain ⟨q1, q2⟩ := pNds_len 41 _ _ _ h1
  obtain ⟨r', _, h4⟩ := rNds_bad 43 1 ⟨b, 300, false⟩ (by decide) (Int.le_refl _) h
  have h5 := (rNds_room 43 1 ⟨b, 300, false⟩ (by show (0 : Int) ≤ 300; decide)).1
  rw [h4] at h5
  have h5 : (0 : Int) ≤ 300 - cntNds (rdS b).1 := h5
  exact ⟨by omega, q2⟩
theorem rd_pre (b : ByteArray) : rdPre b := fun h _ => rd_fine h
mutual
theorem lon_bnd : ∀ n : Nd, bndNd n → lonNd n = false
  | ⟨k, s, m, a, t, c⟩, h => by
    rw [bndNd] at h
    obtain ⟨⟨h1, h2, h3, h4⟩, h5⟩ := h
    rw [lonNd, lons_bnd c h5, Bool.or_false]
    unfold longN
    rw [Bool.or_eq_false_iff, decide_eq_false_iff_not, List.any_eq_false]
    refine ⟨by dsimp only; omega, fun x hx => ?_⟩
    unfold bigA
    rw [decide_eq_true_eq]
    have := h4 x hx
    omega
theorem lons_bnd : ∀ l : List Nd, bndNds l → lonNds l = false
  | [], _ => by rw [lonNds]
  | n :: l, h => by
    rw [bndNds] at h
    rw [lonNds, lon_bnd n h.1, lons_bnd l h.2]; rfl
end
theorem bytes_read {b : ByteArray} (h : rdE b = 0) : fineNds (rdL b) ∧ bytE (rdL b) = 0 ∧ bytS (rdL b) = b := by
  have hok : rdOK b = true := by
    unfold rdE at h
    split at h
    · assumption
    · cases h
  have e : rdL b = (rdS b).1 := by unfold rdL; rw [if_pos hok]
  rw [e]
  unfold rdOK at hok
  simp only [Bool.and_eq_true, Bool.not_eq_true', beq_iff_eq] at hok
  obtain ⟨⟨h1, h2⟩, h3⟩ := hok
  have hf := rd_fine h1
  have hE : bytE (rdS b).1 = 0 := by
    unfold bytE
    rw [if_pos h3, lons_bnd _ hf.2]; rfl
  refine ⟨hf, hE, ?_⟩
  obtain ⟨r, h4, h5⟩ := rd_inv h1
  have h6 := pNds_inv _ _ _ _ h4
  rw [h5] at h2
  have hr : r = [] := by
    have := eqS_bk h2
    have := congrArg kb this
    rw [kb_bk, kb_bk] at this; exact this
  rw [hr, List.append_nil] at h6
  rw [bytS_eq hE, ← h6, bk_kb]
/-! ### Unlike nodes -/
end Go.Proofs.YtnhipiedjekkpaaGreatDoor.AXP
namespace Go.Proofs.YtnhipiedjekkpaaGreatDoor.AX
open Go AXP
def conReadN : Con := conP [.str] fun (b : ByteArray) => { res := .tup [.row .node (rdL b), .int .i64 (rdE b)] }
theorem readN_holds : Holds 99 conReadN := conP_holds fun b => by
  rcases (show ∃ w : ByteArray, w = b from ⟨_, rfl⟩) with ⟨b, rfl⟩
  intro F I w vals hH hv _
  exact read_holds [.str b] [] { pre := some (rdPre b), res := .tup [.row .node (rdL b), .int .i64 (rdE b)] } rfl F I w vals hH hv (fun p hp => by injection hp with hp; subst hp; exact rd_pre b)
end Go.Proofs.YtnhipiedjekkpaaGreatDoor.AX
end
section
namespace Go.Proofs.YtnhipiedjekkpaaGreatDoor.AXP
open Go Go.Proofs.YtnhipiedjekkpaaGreatDoor.AX
theorem kb_sz {s : ByteArray} {n : Nat} (h : s.size ≤ n) : (kb s).length ≤ n := by rw [kb_size]; exact h
def txsL : List ByteArray → List UInt8
  | [] => []
  | s :: l => txtL (kb s) ++ txsL l
def lstL (l : List ByteArray) : List UInt8 := numL l.length ++ txsL l
def flA : List At → List ByteArray
  | [] => []
  | a :: l => a.name :: a.value :: flA l
def prs : List ByteArray → List At
  | x :: y :: l => ⟨x, y⟩ :: prs l
  | _ => []
theorem prs_fl : ∀ l : List At, prs (flA l) = l
  | [] => rfl
  | a :: l => by rw [flA, prs, prs_fl l]
theorem fl_prs : ∀ (l : List ByteArray), l.length % 2 = 0 → flA (prs l) = l
  | [], _ => rfl
  | [x], h => by simp at h
  | x :: y :: l, h => by
    rw [prs, flA, fl_prs l (by simp only [List.length_cons] at h; omega)]
theorem fl_len : ∀ l : List At, (flA l).length = 2 * l.length
  | [] => rfl
  | a :: l => by rw [flA, List.length_cons, List.length_cons, fl_len l, List.length_cons]; omega
theorem prs_len : ∀ (l : List ByteArray), (prs l).length = l.length / 2
  | [] => rfl
  | [x] => by show 0 = 1 / 2; decide
  | x :: y :: l => by rw [prs, List.length_cons, prs_len l]; simp only [List.length_cons]; omega
theorem fl_all {p : ByteArray → Prop} : ∀ {l : List At}, (∀ a ∈ l, p a.name ∧ p a.value) → ∀ s ∈ flA l, p s
  | [], _, s, h => by cases h
  | a :: l, h, s, hs => by
    rw [flA] at hs
    cases hs with
    | head => exact (h a (.head _)).1
    | tail _ hs =>
      cases hs with
      | head => exact (h a (.head _)).2
      | tail _ hs => exact fl_all (fun b hb => h b (.tail _ hb)) s hs
theorem prs_all {p : ByteArray → Prop} : ∀ {l : List ByteArray}, (∀ s ∈ l, p s) → ∀ a ∈ prs l, p a.name ∧ p a.value
  | [], _, a, h => by cases h
  | [x], _, a, h => by cases h
  | x :: y :: l, h, a, ha => by
    rw [prs] at ha
    cases ha with
    | head => exact ⟨h x (.head _), h y (.tail _ (.head _))⟩
    | tail _ ha => exact prs_all (fun s hs => h s (.tail _ (.tail _ hs))) a ha
def pTxs : Nat → List UInt8 → Option (List ByteArray × List UInt8)
  | 0, b => some ([], b)
  | c + 1, b => match takeT b with
    | none => none
    | some (x, r) => match pTxs c r with
      | none => none
      | some (l, z) => some (bk x :: l, z)
def takeL (b : List UInt8) : Option (List ByteArray × List UInt8) :=
  match takeN b with
  | none => none
  | some (n, r) => if n > 1000 then none else pTxs n r
theorem pTxs_inv : ∀ {c : Nat} {b r : List UInt8} {l : List ByteArray}, pTxs c b = some (l, r) → b = txsL l ++ r ∧ l.length = c ∧ ∀ s ∈ l, s.size ≤ 65536
  | 0, b, r, l, h => by
    rw [pTxs] at h
    injection h with h
    injection h with e1 e2
    subst e1; subst e2
    exact ⟨rfl, rfl, fun s hs => (nomatch hs)⟩
  | c + 1, b, r, l, h => by
    rw [pTxs] at h
    split at h
    · cases h
    rename_i x r1 h1
    split at h
    · cases h
    rename_i l' z h2
    injection h with h
    injection h with e1 e2
    subst e1; subst e2
    obtain ⟨rfl, hx⟩ := take_txt_inv h1
    obtain ⟨rfl, rfl, hl⟩ := pTxs_inv h2
    refine ⟨by rw [txsL, kb_bk, List.append_assoc], rfl, fun s hs => ?_⟩
    cases hs with
    | head => rw [bk_size]; exact hx
    | tail _ hs => exact hl s hs
theorem pTxs_bytes : ∀ {l : List ByteArray}, (∀ s ∈ l, s.size ≤ 65536) → ∀ r, pTxs l.length (txsL l ++ r) = some (l, r)
  | [], _, r => rfl
  | s :: l, h, r => by
    rw [List.length_cons, pTxs, txsL, List.append_assoc, take_txt (kb_sz (h s (.head _)))]
    simp only
    rw [pTxs_bytes fun x hx => h x (.tail _ hx)]
    simp only [bk_kb]
theorem takeL_inv {b r : List UInt8} {l : List ByteArray} (h : takeL b = some (l, r)) : b = lstL l ++ r ∧ l.length ≤ 1000 ∧ ∀ s ∈ l, s.size ≤ 65536 := by
  unfold takeL at h
  split at h
  · cases h
  rename_i n r1 h1
  split at h
  · cases h
  obtain ⟨rfl, _⟩ := take_num_inv h1
  obtain ⟨rfl, rfl, hl⟩ := pTxs_inv h
  exact ⟨by unfold lstL; rw [List.append_assoc], by omega, hl⟩
theorem takeL_bytes {l : List ByteArray} (hl : l.length ≤ 1000) (h : ∀ s ∈ l, s.size ≤ 65536) (r : List UInt8) : takeL (lstL l ++ r) = some (l, r) := by
  unfold takeL lstL
  rw [List.append_assoc, take_num (by omega)]
  simp only
  rw [if_neg (by omega), pTxs_bytes h]
/-! ### One node as a text -/
def zN : Nd := ⟨0, 0, ⟨#[]⟩, [], ⟨#[]⟩, []⟩
def rdOne (t : ByteArray) : Option Nd := if rdE t = 0 then (match rdL t with
  | [n] => some n
  | _ => none) else none
def wrNd (n : Nd) : Prop := bytE [n] = 0 ∧ (bytS [n]).size ≤ 65536
theorem rdOne_bytes {n : Nd} (h : bytE [n] = 0) : rdOne (bytS [n]) = some n := by
  obtain ⟨h1, h2⟩ := read_bytes_ok h
  unfold rdOne
  rw [if_pos h2, h1]
theorem rdOne_inv {t : ByteArray} {n : Nd} (h : rdOne t = some n) : bytE [n] = 0 ∧ bytS [n] = t ∧ fineNds [n] := by
  unfold rdOne at h
  split at h
  · rename_i he
    split at h
    · rename_i m hm
      injection h with h
      subst h
      obtain ⟨h1, h2, h3⟩ := bytes_read he
      rw [hm] at h1 h2 h3
      exact ⟨h2, h3, h1⟩
    · cases h
  · cases h
def pNode (b : List UInt8) : Option (Nd × List UInt8) :=
  match takeT b with
  | none => none
  | some (t, r) => match rdOne (bk t) with
    | none => none
    | some n => some (n, r)
theorem pNode_inv {b r : List UInt8} {n : Nd} (h : pNode b = some (n, r)) : b = txtL (kb (bytS [n])) ++ r ∧ wrNd n ∧ fineNds [n] := by
  unfold pNode at h
  split at h
  · cases h
  rename_i t r1 h1
  split at h
  · cases h
  rename_i m h2
  injection h with h
  injection h with e1 e2
  subst e1; subst e2
  obtain ⟨rfl, ht⟩ := take_txt_inv h1
  obtain ⟨h3, h4, h5⟩ := rdOne_inv h2
  unfold wrNd
  rw [h4, kb_bk, bk_size]
  exact ⟨rfl, ⟨h3, ht⟩, h5⟩
theorem pNode_bytes {n : Nd} (h : wrNd n) (r : List UInt8) : pNode (txtL (kb (bytS [n])) ++ r) = some (n, r) := by
  unfold pNode
  rw [take_txt (kb_sz h.2)]
  simp only [bk_kb, rdOne_bytes h.1]
/-! ### Edits -/
def pAts (b : List UInt8) : Option (List At × List UInt8) :=
  match takeL b with
  | none => none
  | some (l, r) => if l.length % 2 > 0 then none else some (prs l, r)
theorem pAts_inv {b r : List UInt8} {l : List At} (h : pAts b = some (l, r)) : b = lstL (flA l) ++ r ∧ l.length ≤ 500 ∧ ∀ a ∈ l, a.name.size ≤ 65536 ∧ a.value.size ≤ 65536 := by
  unfold pAts at h
  split at h
  · cases h
  rename_i l' r1 h1
  split at h
  · cases h
  rename_i h2
  injection h with h
  injection h with e1 e2
  subst e1; subst e2
  obtain ⟨rfl, h3, h4⟩ := takeL_inv h1
  refine ⟨by rw [fl_prs _ (by omega)], ?_, prs_all h4⟩
  rw [prs_len]; omega
theorem pAts_bytes {l : List At} (hl : l.length ≤ 500) (h : ∀ a ∈ l, a.name.size ≤ 65536 ∧ a.value.size ≤ 65536) (r : List UInt8) : pAts (lstL (flA l) ++ r) = some (l, r) := by
  unfold pAts
  rw [takeL_bytes (by rw [fl_len]; omega) (fl_all h)]
  simp only
  rw [if_neg (by rw [fl_len]; omega), prs_fl]
def wayL : List Int → List UInt8
  | [] => []
  | i :: l => numL i.toNat ++ wayL l
def pWay : Nat → List UInt8 → Option (List Int × List UInt8)
  | 0, b => some ([], b)
  | c + 1, b => match takeN b with
    | none => none
    | some (n, r) => if n > 300 then none else match pWay c r with
      | none => none
      | some (l, z) => some ((n : Int) :: l, z)
theorem pWay_inv : ∀ {c : Nat} {b r : List UInt8} {l : List Int}, pWay c b = some (l, r) → b = wayL l ++ r ∧ l.length = c ∧ ∀ i ∈ l, 0 ≤ i ∧ i ≤ 300
  | 0, b, r, l, h => by
    rw [pWay] at h
    injection h with h
    injection h with e1 e2
    subst e1; subst e2
    exact ⟨rfl, rfl, fun s hs => (nomatch hs)⟩
  | c + 1, b, r, l, h => by
    rw [pWay] at h
    split at h
    · cases h
    rename_i n r1 h1
    split at h
    · cases h
    split at h
    · cases h
    rename_i l' z h2
    injection h with h
    injection h with e1 e2
    subst e1; subst e2
    obtain ⟨rfl, _⟩ := take_num_inv h1
    obtain ⟨rfl, rfl, hl⟩ := pWay_inv h2
    refine ⟨by rw [wayL, Int.toNat_natCast, List.append_assoc], rfl, fun i hi => ?_⟩
    cases hi with
    | head => omega
    | tail _ hi => exact hl i hi
theorem pWay_bytes : ∀ {l : List Int}, (∀ i ∈ l, 0 ≤ i ∧ i ≤ 300) → ∀ r, pWay l.length (wayL l ++ r) = some (l, r)
  | [], _, r => rfl
  | i :: l, h, r => by
    have hi := h i (.head _)
    rw [List.length_cons, pWay, wayL, List.append_assoc, take_num (by omega)]
    simp only
    rw [if_neg (by omega), pWay_bytes fun x hx => h x (.tail _ hx)]
    simp only
    rw [Int.toNat_of_nonneg hi.1]
def bodyL (x : Ed) : List UInt8 :=
  if x.what = 1 then txtL (kb (bytS [x.new])) else if x.what = 2 then txtL (kb (bytS [x.old]))
  else if x.what = 3 then lstL (flA x.old.attrs) ++ lstL (flA x.new.attrs)
  else if x.what = 4 then txtL (kb x.old.text) ++ txtL (kb x.new.text) else []
def edL (x : Ed) : List UInt8 := numL x.what.toNat ++ (numL x.way.length ++ (wayL x.way ++ bodyL x))
def edsL : List Ed → List UInt8
  | [] => []
  | x :: s => edL x ++ edsL s
def delL (s : List Ed) : List UInt8 := numL s.length ++ edsL s
def pBody (k : Nat) (w : List Int) (b : List UInt8) : Option (Ed × List UInt8) :=
  if k = 1 then (match pNode b with
    | none => none
    | some (n, r) => some (⟨k, w, zN, n⟩, r))
  else if k = 2 then (match pNode b with
    | none => none
    | some (n, r) => some (⟨k, w, n, zN⟩, r))
  else if k = 3 then (match pAts b with
    | none => none
    | some (x, r) => match pAts r with
      | none => none
      | some (y, z) => some (⟨k, w, { zN with attrs := x }, { zN with attrs := y }⟩, z))
  else if k = 4 then (match takeT b with
    | none => none
    | some (x, r) => match takeT r with
      | none => none
      | some (y, z) => some (⟨k, w, { zN with text := bk x }, { zN with text := bk y }⟩, z))
  else some (⟨k, w, zN, zN⟩, b)
def pEd (b : List UInt8) : Option (Ed × List UInt8) :=
  match takeN b with
  | none => none
  | some (k, r) => match takeN r with
    | none => none
    | some (c, r1) => if k > 4 ∨ c > 41 then none else match pWay c r1 with
      | none => none
      | some (w, r2) => pBody k w r2
def pEds : Nat → List UInt8 → Option (List Ed × List UInt8)
  | 0, b => some ([], b)
  | c + 1, b => match pEd b with
    | none => none
    | some (x, r) => match pEds c r with
      | none => none
      | some (l, z) => some (x :: l, z)
def pDel (b : List UInt8) : Option (List Ed × List UInt8) :=
  match takeN b with
  | none => none
  | some (n, r) => if n > 400 then none else pEds n r
def wrEd (x : Ed) : Prop := (x.what = 1 → wrNd x.new) ∧ (x.what = 2 → wrNd x.old)
def fineEd (x : Ed) : Prop := (x.what = 1 → fineNds [x.new]) ∧ (x.what = 2 → fineNds [x.old])
def fineEds (s : List Ed) : Prop := ∀ x ∈ s, fineEd x
theorem pBody_inv {k : Nat} {w : List Int} {b r : List UInt8} {x : Ed} (h : pBody k w b = some (x, r)) : x.what = k ∧ x.way = w ∧ b = bodyL x ++ r ∧ wrEd x ∧ fineEd x := by
  unfold pBody at h
  split at h
  · rename_i hk
    subst hk
    split at h
    · cases h
    rename_i n r1 h1
    injection h with h
    injection h with e1 e2
    subst e1; subst e2
    obtain ⟨h2, h3, h4⟩ := pNode_inv h1
    refine ⟨rfl, rfl, ?_, ⟨fun _ => h3, fun e => absurd (show ((1 : Nat) : Int) = 2 from e) (by decide)⟩, ⟨fun _ => h4, fun e => absurd (show ((1 : Nat) : Int) = 2 from e) (by decide)⟩⟩
    unfold bodyL
    rw [if_pos (show ((1 : Nat) : Int) = 1 from rfl)]
    exact h2
  split at h
  · rename_i hk
    subst hk
    split at h
    · cases h
    rename_i n r1 h1
    injection h with h
    injection h with e1 e2
    subst e1; subst e2
    obtain ⟨h2, h3, h4⟩ := pNode_inv h1
    refine ⟨rfl, rfl, ?_, ⟨fun e => absurd (show ((2 : Nat) : Int) = 1 from e) (by decide), fun _ => h3⟩, ⟨fun e => absurd (show ((2 : Nat) : Int) = 1 from e) (by decide), fun _ => h4⟩⟩
    unfold bodyL
    rw [if_neg (show ¬ ((2 : Nat) : Int) = 1 by decide), if_pos (show ((2 : Nat) : Int) = 2 from rfl)]
    exact h2
  split at h
  · rename_i hk
    subst hk
    split at h
    · cases h
    rename_i l r1 h1
    split at h
    · cases h
    rename_i l2 r2 h2
    injection h with h
    injection h with e1 e2
    subst e1; subst e2
    obtain ⟨h3, _, _⟩ := pAts_inv h1
    obtain ⟨h4, _, _⟩ := pAts_inv h2
    refine ⟨rfl, rfl, ?_, ⟨fun e => absurd (show ((3 : Nat) : Int) = 1 from e) (by decide), fun e => absurd (show ((3 : Nat) : Int) = 2 from e) (by decide)⟩, ⟨fun e => absurd (show ((3 : Nat) : Int) = 1 from e) (by decide), fun e => absurd (show ((3 : Nat) : Int) = 2 from e) (by decide)⟩⟩
    unfold bodyL
    rw [if_neg (show ¬ ((3 : Nat) : Int) = 1 by decide), if_neg (show ¬ ((3 : Nat) : Int) = 2 by decide), if_pos (show ((3 : Nat) : Int) = 3 from rfl), h3, h4, List.append_assoc]
  split at h
  · rename_i hk
    subst hk
    split at h
    · cases h
    rename_i l r1 h1
    split at h
    · cases h
    rename_i l2 r2 h2
    injection h with h
    injection h with e1 e2
    subst e1; subst e2
    obtain ⟨h3, _⟩ := take_txt_inv h1
    obtain ⟨h4, _⟩ := take_txt_inv h2
    refine ⟨rfl, rfl, ?_, ⟨fun e => absurd (show ((4 : Nat) : Int) = 1 from e) (by decide), fun e => absurd (show ((4 : Nat) : Int) = 2 from e) (by decide)⟩, ⟨fun e => absurd (show ((4 : Nat) : Int) = 1 from e) (by decide), fun e => absurd (show ((4 : Nat) : Int) = 2 from e) (by decide)⟩⟩
    unfold bodyL
    rw [if_neg (show ¬ ((4 : Nat) : Int) = 1 by decide), if_neg (show ¬ ((4 : Nat) : Int) = 2 by decide), if_neg (show ¬ ((4 : Nat) : Int) = 3 by decide), if_pos (show ((4 : Nat) : Int) = 4 from rfl), h3, h4, List.append_assoc]
    dsimp only
    rw [kb_bk, kb_bk]
  · rename_i h1 h2 h3 h4
    injection h with h
    injection h with e1 e2
    subst e1; subst e2
    have g1 : ¬ ((k : Nat) : Int) = 1 := by omega
    have g2 : ¬ ((k : Nat) : Int) = 2 := by omega
    have g3 : ¬ ((k : Nat) : Int) = 3 := by omega
    have g4 : ¬ ((k : Nat) : Int) = 4 := by omega
    refine ⟨rfl, rfl, ?_, ⟨fun e => absurd e g1, fun e => absurd e g2⟩, ⟨fun e => absurd e g1, fun e => absurd e g2⟩⟩
    unfold bodyL
    rw [if_neg g1, if_neg g2, if_neg g3, if_neg g4]; rfl
theorem pEd_inv {b r : List UInt8} {x : Ed} (h : pEd b = some (x, r)) : b = edL x ++ r ∧ wrEd x ∧ fineEd x := by
  unfold pEd at h
  split at h
  · cases h
  rename_i k r0 h0
  split at h
  · cases h
  rename_i c r1 h1
  split at h
  · cases h
  split at h
  · cases h
  rename_i w r2 h2
  obtain ⟨rfl, _⟩ := take_num_inv h0
  obtain ⟨rfl, _⟩ := take_num_inv h1
  obtain ⟨rfl, rfl, _⟩ := pWay_inv h2
  obtain ⟨q1, q2, rfl, q4, q5⟩ := pBody_inv h
  refine ⟨?_, q4, q5⟩
  unfold edL
  rw [q1, q2, Int.toNat_natCast]
  simp only [List.append_assoc]
theorem pEds_inv : ∀ {c : Nat} {b r : List UInt8} {s : List Ed}, pEds c b = some (s, r) → b = edsL s ++ r ∧ s.length = c ∧ ∀ x ∈ s, wrEd x ∧ fineEd x
  | 0, b, r, l, h => by
    rw [pEds] at h
    injection h with h
    injection h with e1 e2
    subst e1; subst e2
    exact ⟨rfl, rfl, fun s hs => (nomatch hs)⟩
  | c + 1, b, r, l, h => by
    rw [pEds] at h
    split at h
    · cases h
    rename_i x r1 h1
    split at h
    · cases h
    rename_i l' z h2
    injection h with h
    injection h with e1 e2
    subst e1; subst e2
    obtain ⟨rfl, hx⟩ := pEd_inv h1
    obtain ⟨rfl, rfl, hl⟩ := pEds_inv h2
    refine ⟨by rw [edsL, List.append_assoc], rfl, fun s hs => ?_⟩
    cases hs with
    | head => exact hx
    | tail _ hs => exact hl s hs
theorem pDel_inv {b r : List UInt8} {s : List Ed} (h : pDel b = some (s, r)) : b = delL s ++ r ∧ s.length ≤ 400 ∧ ∀ x ∈ s, wrEd x ∧ fineEd x := by
  unfold pDel at h
  split at h
  · cases h
  rename_i n r1 h1
  split at h
  · cases h
  obtain ⟨rfl, _⟩ := take_num_inv h1
  obtain ⟨rfl, rfl, hl⟩ := pEds_inv h
  exact ⟨by unfold delL; rw [List.append_assoc], by omega, hl⟩
structure PlainP (x : Ed) : Prop where
  w0 : 1 ≤ x.what
  w1 : x.what ≤ 4
  n0 : 0 < x.way.length
  n1 : x.way.length ≤ 41
  at_ : ∀ i ∈ x.way, 0 ≤ i ∧ i ≤ 300
  in_ : x.what = 1 → x.old = zN
  out : x.what = 2 → x.new = zN
  att : x.what = 3 → (x.old = { zN with attrs := x.old.attrs } ∧ x.old.attrs.length ≤ 12 ∧ ∀ a ∈ x.old.attrs, a.name.size ≤ 65536 ∧ a.value.size ≤ 65536) ∧
    (x.new = { zN with attrs := x.new.attrs } ∧ x.new.attrs.length ≤ 12 ∧ ∀ a ∈ x.new.attrs, a.name.size ≤ 65536 ∧ a.value.size ≤ 65536)
  txt : x.what = 4 → (x.old = { zN with text := x.old.text } ∧ x.old.text.size ≤ 65536) ∧ (x.new = { zN with text := x.new.text } ∧ x.new.text.size ≤ 65536)
theorem pBody_bytes {x : Ed} (hp : PlainP x) (hw : wrEd x) (r : List UInt8) : pBody x.what.toNat x.way (bodyL x ++ r) = some (x, r) := by
  obtain ⟨w0, w1, _, _, _, h1, h2, h3, h4⟩ := hp
  obtain ⟨k, w, o, n⟩ := x
  dsimp only at w0 w1 h1 h2 h3 h4 ⊢
  obtain ⟨j, rfl⟩ := Int.eq_ofNat_of_zero_le (show 0 ≤ k by omega)
  rw [Int.toNat_natCast]
  unfold pBody bodyL
  dsimp only
  by_cases e1 : j = 1
  · subst e1
    have := h1 rfl
    subst this
    rw [if_pos (show ((1 : Nat) : Int) = 1 from rfl), if_pos rfl, pNode_bytes (hw.1 rfl)]
  have g1 : ¬ ((j : Nat) : Int) = 1 := by omega
  rw [if_neg e1, if_neg g1]
  by_cases e2 : j = 2
  · subst e2
    have := h2 rfl
    subst this
    rw [if_pos (show ((2 : Nat) : Int) = 2 from rfl), if_pos rfl, pNode_bytes (hw.2 rfl)]
  have g2 : ¬ ((j : Nat) : Int) = 2 := by omega
  rw [if_neg e2, if_neg g2]
  by_cases e3 : j = 3
  · subst e3
    obtain ⟨⟨a1, a2, a3⟩, b1, b2, b3⟩ := h3 rfl
    rw [if_pos (show ((3 : Nat) : Int) = 3 from rfl), if_pos rfl, List.append_assoc, pAts_bytes (by omega) a3]
    simp only
    rw [pAts_bytes (by omega) b3]
    simp only
    rw [← a1, ← b1]
  have g3 : ¬ ((j : Nat) : Int) = 3 := by omega
  rw [if_neg e3, if_neg g3]
  have e4 : j = 4 := by omega
  subst e4
  obtain ⟨⟨a1, a2⟩, b1, b2⟩ := h4 rfl
  rw [if_pos (show ((4 : Nat) : Int) = 4 from rfl), if_pos rfl, List.append_assoc, take_txt (kb_sz a2)]
  simp only
  rw [take_txt (kb_sz b2)]
  simp only [bk_kb]
  rw [← a1, ← b1]
theorem pEd_bytes {x : Ed} (hp : PlainP x) (hw : wrEd x) (r : List UInt8) : pEd (edL x ++ r) = some (x, r) := by
  have := hp.w0; have := hp.w1; have := hp.n1
  unfold pEd edL
  simp only [List.append_assoc]
  rw [take_num (by omega)]
  simp only
  rw [take_num (by omega)]
  simp only
  rw [if_neg (by omega), pWay_bytes hp.at_]
  simp only
  exact pBody_bytes hp hw r
theorem pEds_bytes : ∀ {s : List Ed}, (∀ x ∈ s, PlainP x ∧ wrEd x) → ∀ r, pEds s.length (edsL s ++ r) = some (s, r)
  | [], _, r => rfl
  | x :: s, h, r => by
    obtain ⟨h1, h2⟩ := h x (.head _)
    rw [List.length_cons, pEds, edsL, List.append_assoc, pEd_bytes h1 h2]
    simp only
    rw [pEds_bytes fun y hy => h y (.tail _ hy)]
theorem pDel_bytes {s : List Ed} (hl : s.length ≤ 400) (h : ∀ x ∈ s, PlainP x ∧ wrEd x) (r : List UInt8) : pDel (delL s ++ r) = some (s, r) := by
  unfold pDel delL
  rw [List.append_assoc, take_num (by omega)]
  simp only
  rw [if_neg (by omega), pEds_bytes h]
/-! ### The program's reader -/
structure DS where
  b : ByteArray
  bad : Bool
def RdOK {α : Type} (p : List UInt8 → Option (α × List UInt8)) (f : DS → α × DS) : Prop :=
  (∀ b, (f ⟨b, true⟩).2.bad = true) ∧ ∀ b, match p (kb b) with
    | some (x, r) => f ⟨b, false⟩ = (x, ⟨bk r, false⟩)
    | none => (f ⟨b, false⟩).2.bad = true
def dNum (m : Int) (s : DS) : Int × DS := if tkE s.b ≠ 0 ∨ tkN s.b > m then (0, ⟨tkR s.b, true⟩) else (tkN s.b, ⟨tkR s.b, s.bad⟩)
def dTxt (s : DS) : ByteArray × DS := (ttS s.b, ⟨ttR s.b, s.bad || ttE s.b != 0⟩)
def dNode (s : DS) : Nd × DS := match rdOne (ttS s.b) with
  | some n => (n, ⟨ttR s.b, s.bad || ttE s.b != 0⟩)
  | none => (zN, ⟨ttR s.b, true⟩)
def tlL (b : ByteArray) : List ByteArray := match takeL (kb b) with | some (l, _) => l | none => []
def tlR (b : ByteArray) : ByteArray := match takeL (kb b) with | some (_, r) => bk r | none => ⟨#[]⟩
def tlE (b : ByteArray) : Int := match takeL (kb b) with | some _ => 0 | none => 4
def dAts (s : DS) : List At × DS := if tlE s.b ≠ 0 ∨ (tlL s.b).length % 2 > 0 then ([], ⟨tlR s.b, true⟩) else (prs (tlL s.b), ⟨tlR s.b, s.bad⟩)
def dWay : Nat → DS → List Int × DS
  | 0, s => ([], s)
  | c + 1, s => if s.bad = true then ([], s) else ((dNum 300 s).1 :: (dWay c (dNum 300 s).2).1, (dWay c (dNum 300 s).2).2)
def dBody (k : Int) (w : List Int) (s : DS) : Ed × DS :=
  if s.bad = true then (⟨k, w, zN, zN⟩, s)
  else if k = 1 then (⟨k, w, zN, (dNode s).1⟩, (dNode s).2)
  else if k = 2 then (⟨k, w, (dNode s).1, zN⟩, (dNode s).2)
  else if k = 3 then (⟨k, w, { zN with attrs := (dAts s).1 }, { zN with attrs := (dAts (dAts s).2).1 }⟩, (dAts (dAts s).2).2)
  else if k = 4 then (⟨k, w, { zN with text := (dTxt s).1 }, { zN with text := (dTxt (dTxt s).2).1 }⟩, (dTxt (dTxt s).2).2)
  else (⟨k, w, zN, zN⟩, s)
def dEd (s : DS) : Ed × DS := dBody (dNum 4 s).1 (dWay (dNum 41 (dNum 4 s).2).1.toNat (dNum 41 (dNum 4 s).2).2).1 (dWay (dNum 41 (dNum 4 s).2).1.toNat (dNum 41 (dNum 4 s).2).2).2
def dEds : Nat → DS → List Ed × DS
  | 0, s => ([], s)
  | c + 1, s => if s.bad = true then ([], s) else ((dEd s).1 :: (dEds c (dEd s).2).1, (dEds c (dEd s).2).2)
def dDel (s : DS) : List Ed × DS := dEds (dNum 400 s).1.toNat (dNum 400 s).2
theorem tk_noneD {b : ByteArray} (h : takeN (kb b) = none) : tkE b ≠ 0 := by unfold tkE; rw [h]; decide
theorem tk_someD {b : ByteArray} {n : Nat} {r : List UInt8} (h : takeN (kb b) = some (n, r)) : tkE b = 0 ∧ tkN b = n ∧ tkR b = bk r := by unfold tkE tkN tkR; rw [h]; exact ⟨rfl, rfl, rfl⟩
theorem tt_noneD {b : ByteArray} (h : takeT (kb b) = none) : (ttE b != 0) = true := by unfold ttE; rw [h]; rfl
theorem tt_someD {b : ByteArray} {x r : List UInt8} (h : takeT (kb b) = some (x, r)) : ttE b = 0 ∧ ttS b = bk x ∧ ttR b = bk r := by unfold ttE ttS ttR; rw [h]; exact ⟨rfl, rfl, rfl⟩
theorem dNum_bad (m : Int) (b : ByteArray) : (dNum m ⟨b, true⟩).2.bad = true := by unfold dNum; split <;> rfl
theorem dNum_none {m : Int} {b : ByteArray} {e : Bool} (h : takeN (kb b) = none) : (dNum m ⟨b, e⟩).2.bad = true := by
  unfold dNum; rw [if_pos (.inl (tk_noneD h))]
theorem dNum_big {m : Int} {b : ByteArray} {e : Bool} {n : Nat} {r : List UInt8} (h : takeN (kb b) = some (n, r)) (hm : m < n) : (dNum m ⟨b, e⟩).2.bad = true := by
  have := (tk_someD h).2.1
  unfold dNum; rw [if_pos (.inr (by dsimp only; omega))]
theorem dNum_some {m : Int} {b : ByteArray} {e : Bool} {n : Nat} {r : List UInt8} (h : takeN (kb b) = some (n, r)) (hm : (n : Int) ≤ m) : dNum m ⟨b, e⟩ = ((n : Int), ⟨bk r, e⟩) := by
  obtain ⟨h1, h2, h3⟩ := tk_someD h
  unfold dNum; rw [if_neg (by dsimp only; omega)]
  dsimp only
  rw [h2, h3]
theorem dNum_rng {m : Int} (h : 0 ≤ m) (s : DS) : 0 ≤ (dNum m s).1 ∧ (dNum m s).1 ≤ m := by
  unfold dNum
  split
  · exact ⟨Int.le_refl _, h⟩
  · rename_i hq
    have h0 : 0 ≤ tkN s.b := by unfold tkN; split <;> omega
    dsimp only
    omega
theorem dNode_ok : RdOK pNode dNode := by
  refine ⟨fun b => ?_, fun b => ?_⟩
  · unfold dNode; split <;> rfl
  unfold pNode dNode
  cases h : takeT (kb b) with
  | none =>
    dsimp only
    rw [tt_noneD h]
    split <;> rfl
  | some p =>
    obtain ⟨x, r⟩ := p
    obtain ⟨h1, h2, h3⟩ := tt_someD h
    dsimp only
    rw [h1, h2, h3]
    cases rdOne (bk x) with
    | none => rfl
    | some n => rfl
theorem dAts_ok : RdOK pAts dAts := by
  refine ⟨fun b => ?_, fun b => ?_⟩
  · unfold dAts; split <;> rfl
  unfold pAts dAts tlE tlL tlR
  dsimp only
  cases h : takeL (kb b) with
  | none =>
    dsimp only
    rw [if_pos (.inl (by decide))]
  | some p =>
    obtain ⟨x, r⟩ := p
    dsimp only
    by_cases hx : x.length % 2 > 0
    · rw [if_pos hx, if_pos (.inr hx)]
    · rw [if_neg hx, if_neg (by rintro (h | h); exact h rfl; exact hx h)]
theorem dWay_ok : ∀ c, RdOK (pWay c) (dWay c)
  | 0 => ⟨fun b => rfl, fun b => by rw [pWay]; dsimp only; rw [dWay, bk_kb]⟩
  | c + 1 => by
    obtain ⟨g1, g2⟩ := dWay_ok c
    refine ⟨fun b => by rw [dWay, if_pos rfl], fun b => ?_⟩
    rw [pWay, dWay, if_neg (show ¬ (DS.mk b false).bad = true from Bool.false_ne_true)]
    cases h : takeN (kb b) with
    | none =>
      dsimp only
      have := dNum_none (m := 300) (e := false) h
      generalize dNum 300 ⟨b, false⟩ = q at this
      obtain ⟨v, b', e'⟩ := q
      dsimp only at this ⊢
      subst this
      exact g1 b'
    | some p =>
      obtain ⟨n, r⟩ := p
      dsimp only
      by_cases hn : n > 300
      · rw [if_pos hn]
        have := dNum_big (m := 300) (e := false) h (by omega)
        generalize dNum 300 ⟨b, false⟩ = q at this
        obtain ⟨v, b', e'⟩ := q
        dsimp only at this ⊢
        subst this
        exact g1 b'
      · rw [if_neg hn, dNum_some (m := 300) (e := false) h (by omega)]
        dsimp only
        have := g2 (bk r)
        rw [kb_bk] at this
        cases hq : pWay c r with
        | none => rw [hq] at this; exact this
        | some p =>
          obtain ⟨l, z⟩ := p
          rw [hq] at this
          dsimp only at this ⊢
          rw [this]
theorem dBody_ok (k : Nat) (w : List Int) : RdOK (pBody k w) (dBody k w) := by
  refine ⟨fun b => by unfold dBody; rw [if_pos rfl], fun b => ?_⟩
  unfold pBody dBody
  rw [if_neg (show ¬ (DS.mk b false).bad = true from Bool.false_ne_true)]
  by_cases e1 : k = 1
  · subst e1
    rw [if_pos rfl, if_pos (show ((1 : Nat) : Int) = 1 from rfl)]
    have := dNode_ok.2 b
    cases h : pNode (kb b) with
    | none => rw [h] at this; exact this
    | some p =>
      obtain ⟨n, r⟩ := p
      rw [h] at this
      dsimp only at this ⊢
      rw [this]
  rw [if_neg e1, if_neg (show ¬ (k : Int) = 1 by omega)]
  by_cases e2 : k = 2
  · subst e2
    rw [if_pos rfl, if_pos (show ((2 : Nat) : Int) = 2 from rfl)]
    have := dNode_ok.2 b
    cases h : pNode (kb b) with
    | none => rw [h] at this; exact this
    | some p =>
      obtain ⟨n, r⟩ := p
      rw [h] at this
      dsimp only at this ⊢
      rw [this]
  rw [if_neg e2, if_neg (show ¬ (k : Int) = 2 by omega)]
  by_cases e3 : k = 3
  · subst e3
    rw [if_pos rfl, if_pos (show ((3 : Nat) : Int) = 3 from rfl)]
    have := dAts_ok.2 b
    cases h : pAts (kb b) with
    | none =>
      rw [h] at this
      dsimp only at this ⊢
      generalize dAts ⟨b, false⟩ = q at this
      obtain ⟨v, b', e'⟩ := q
      dsimp only at this ⊢
      subst this
      exact dAts_ok.1 b'
    | some p =>
      obtain ⟨l, r⟩ := p
      rw [h] at this
      dsimp only at this ⊢
      rw [this]
      dsimp only
      have h2 := dAts_ok.2 (bk r)
      rw [kb_bk] at h2
      cases hq : pAts r with
      | none => rw [hq] at h2; exact h2
      | some p =>
        obtain ⟨l2, z⟩ := p
        rw [hq] at h2
        dsimp only at h2 ⊢
        rw [h2]
  rw [if_neg e3, if_neg (show ¬ (k : Int) = 3 by omega)]
  by_cases e4 : k = 4
  · subst e4
    rw [if_pos rfl, if_pos (show ((4 : Nat) : Int) = 4 from rfl)]
    unfold dTxt
    dsimp only
    cases h : takeT (kb b) with
    | none =>
      dsimp only
      rw [tt_noneD h]; rfl
    | some p =>
      obtain ⟨x, r⟩ := p
      obtain ⟨h1, h2, h3⟩ := tt_someD h
      dsimp only
      rw [h1, h2, h3]
      cases hq : takeT r with
      | none =>
        dsimp only
        rw [tt_noneD (b := bk r) (by rw [kb_bk]; exact hq), Bool.or_true]
      | some p =>
        obtain ⟨y, z⟩ := p
        obtain ⟨q1, q2, q3⟩ := tt_someD (b := bk r) (by rw [kb_bk]; exact hq)
        dsimp only
        rw [q1, q2, q3]; rfl
  rw [if_neg e4, if_neg (show ¬ (k : Int) = 4 by omega)]
  dsimp only
  rw [bk_kb]
theorem dBad {α β : Type} {f : DS → α × DS} (g : ∀ b, (f ⟨b, true⟩).2.bad = true) {q : β × DS} (h : q.2.bad = true) : (f q.2).2.bad = true := by
  obtain ⟨v, b, e⟩ := q
  dsimp only at h ⊢
  subst h
  exact g b
theorem dEd_ok : RdOK pEd dEd := by
  have key : ∀ q : Int × DS, q.2.bad = true → (dBody q.1 (dWay (dNum 41 q.2).1.toNat (dNum 41 q.2).2).1 (dWay (dNum 41 q.2).1.toNat (dNum 41 q.2).2).2).2.bad = true := fun q h => by
    have h1 := dBad (f := dNum 41) (dNum_bad 41) h
    have h2 := dBad (f := dWay (dNum 41 q.2).1.toNat) (dWay_ok _).1 h1
    unfold dBody
    rw [if_pos h2]; exact h2
  have key2 : ∀ (v : Int) (q : Int × DS), q.2.bad = true → (dBody v (dWay q.1.toNat q.2).1 (dWay q.1.toNat q.2).2).2.bad = true := fun v q h => by
    have h2 := dBad (f := dWay q.1.toNat) (dWay_ok _).1 h
    unfold dBody
    rw [if_pos h2]; exact h2
  refine ⟨fun b => key _ (dNum_bad 4 b), fun b => ?_⟩
  unfold pEd dEd
  cases h : takeN (kb b) with
  | none => exact key _ (dNum_none h)
  | some p =>
    obtain ⟨k, r⟩ := p
    dsimp only
    by_cases hk : k > 4
    · have q := key _ (dNum_big (m := 4) (e := false) h (by omega))
      cases h1 : takeN r with
      | none => exact q
      | some p =>
        obtain ⟨c, r1⟩ := p
        dsimp only
        rw [if_pos (.inl hk)]
        exact q
    rw [dNum_some (m := 4) (e := false) h (by omega)]
    dsimp only
    cases h1 : takeN r with
    | none => exact key2 _ _ (dNum_none (b := bk r) (by rw [kb_bk]; exact h1))
    | some p =>
      obtain ⟨c, r1⟩ := p
      dsimp only
      by_cases hc : c > 41
      · rw [if_pos (.inr hc)]
        exact key2 _ _ (dNum_big (b := bk r) (by rw [kb_bk]; exact h1) (by omega))
      rw [if_neg (by omega), dNum_some (m := 41) (e := false) (b := bk r) (by rw [kb_bk]; exact h1) (by omega)]
      dsimp only
      rw [Int.toNat_natCast]
      have hw := (dWay_ok c).2 (bk r1)
      rw [kb_bk] at hw
      cases h2 : pWay c r1 with
      | none =>
        rw [h2] at hw
        dsimp only at hw ⊢
        unfold dBody
        rw [if_pos hw]; exact hw
      | some p =>
        obtain ⟨w, r2⟩ := p
        rw [h2] at hw
        dsimp only at hw ⊢
        rw [hw]
        dsimp only
        have := (dBody_ok k w).2 (bk r2)
        rw [kb_bk] at this
        exact this
theorem dEds_ok : ∀ c, RdOK (pEds c) (dEds c)
  | 0 => ⟨fun b => rfl, fun b => by rw [pEds]; dsimp only; rw [dEds, bk_kb]⟩
  | c + 1 => by
    obtain ⟨g1, g2⟩ := dEds_ok c
    refine ⟨fun b => by rw [dEds, if_pos rfl], fun b => ?_⟩
    rw [pEds, dEds, if_neg (show ¬ (DS.mk b false).bad = true from Bool.false_ne_true)]
    have he := dEd_ok.2 b
    cases h : pEd (kb b) with
    | none =>
      rw [h] at he
      exact dBad g1 he
    | some p =>
      obtain ⟨x, r⟩ := p
      rw [h] at he
      dsimp only at he ⊢
      rw [he]
      dsimp only
      have := g2 (bk r)
      rw [kb_bk] at this
      cases hq : pEds c r with
      | none => rw [hq] at this; exact this
      | some p =>
        obtain ⟨l, z⟩ := p
        rw [hq] at this
        dsimp only at this ⊢
        rw [this]
theorem dDel_ok : RdOK pDel dDel := by
  refine ⟨fun b => dBad (f := dEds _) (dEds_ok _).1 (dNum_bad 400 b), fun b => ?_⟩
  unfold pDel dDel
  cases h : takeN (kb b) with
  | none => exact dBad (f := dEds _) (dEds_ok _).1 (dNum_none h)
  | some p =>
    obtain ⟨n, r⟩ := p
    dsimp only
    by_cases hn : n > 400
    · rw [if_pos hn]
      exact dBad (f := dEds _) (dEds_ok _).1 (dNum_big h (by omega))
    rw [if_neg hn, dNum_some (m := 400) (e := false) h (by omega)]
    dsimp only
    rw [Int.toNat_natCast]
    have := (dEds_ok n).2 (bk r)
    rw [kb_bk] at this
    exact this
end Go.Proofs.YtnhipiedjekkpaaGreatDoor.AXP
end
section
namespace Go.Proofs.YtnhipiedjekkpaaGreatDoor.AXP
open Go Go.Proofs.YtnhipiedjekkpaaGreatDoor.AX
def eqEd (x y : Ed) : Bool := x.what == y.what && eql eqI x.way y.way && eqNd x.old y.old && eqNd x.new y.new
end Go.Proofs.YtnhipiedjekkpaaGreatDoor.AXP
namespace Go.Proofs.YtnhipiedjekkpaaGreatDoor.AX
open Go AXP
def sumEql (t : Ty) (f : den t → den t → Bool) (a b c : List (den t)) (m i : Int) (K : Ex → List AV → List Blk → Prop) : Prop :=
  Rq (c = a ∧ m = a.length ∧ i = 0 ∧ a.length = b.length ∧ a.length ≤ maxSl) (Br (eql f a b) (K (.exit 0) [.any] []) (K .ret [.bool false] []))
def lsEqfAts : LS where
  keep := [(1, .as), (2, .as), (15, .as), (16, .as), (17, .as)]
  left := [(6, .as)]
  sum := fun vs bs K => match vs, bs with
    | [.row .attr b, .fn f [], .row .attr a, .int .i64 m, .int .i64 i], [] => Rq (f = 96) (sumEql .attr eqAt a b a m i K)
    | _, _ => False
noncomputable def lsEqfNds (k : Nat) : LS where
  keep := [(1, .as), (2, .as), (15, .as), (16, .as), (17, .as)]
  left := [(6, .as)]
  sum := fun vs bs K => match vs, bs with
    | [.row .node b, .fn f [], .row .node a, .int .i64 m, .int .i64 i], [] => Rq (f = 94 ∧ szNds a < k + 1) (sumEql .node eqNd a b a m i K)
    | _, _ => False
def conAtEq : Con := conP [.agg .attr, .agg .attr] fun (a b : At) => { res := .bool (eqAt a b) }
def conEqfAts : Con := conP [.row .attr, .row .attr, .fn 96] fun (a b : List At) _ => { res := .bool (eql eqAt a b) }
noncomputable def conSameLt (k : Nat) : Con := conP [.row .node, .row .node] fun (a b : List Nd) => { pre := some (szNds a < k), res := .bool (eql eqNd a b) }
noncomputable def conSame1 (k : Nat) : Con := conP [.agg .node, .agg .node] fun (a b : Nd) => { pre := some (szNds a.kids < k), res := .bool (eqNd a b) }
noncomputable def conEqfNds (k : Nat) : Con := conP [.row .node, .row .node, .fn 94] fun (a b : List Nd) _ => { pre := some (szNds a < k + 1), res := .bool (eql eqNd a b) }
def conSame : Con := conP [.row .node, .row .node] fun (a b : List Nd) => { res := .bool (eql eqNd a b) }
noncomputable def cxEqfAts : Cx := cxT (tabLook [(96, conAtEq)])
noncomputable def cxSame1 (k : Nat) : Cx := cxT (tabLook [(95, conEqfAts), (76, conSameLt k)])
noncomputable def cxEqfNds (k : Nat) : Cx := cxT (tabLook [(94, conSame1 k)])
noncomputable def cxSame (k : Nat) : Cx := cxT (tabLook [(93, conEqfNds k)])
end Go.Proofs.YtnhipiedjekkpaaGreatDoor.AX
end
section
namespace Go.Proofs.YtnhipiedjekkpaaGreatDoor.AX
open Go AXP
set_option maxRecDepth 100000
theorem vcAtEqF (a b : At) (Q : List AV → List Blk → List Blk → Prop) : (funA cx0 (LL Tryz.f96 []) Tryz.f96 [.agg (leaves .attr a), .agg (leaves .attr b)] [] [] Q) = (
Q [AV.bool (eqS a.1 b.1 && eqS a.2 b.2)] [] []) := by kernel_rfl
theorem vcEqfAtsB (a b : List At) (i m : Int) (K : Ex → List AV → List Blk → Prop) : (bodyA cxEqfAts (LL Tryz.f95 [lsEqfAts]) Tryz.f95.ntmps (loopAt Tryz.f95 0).1 (loopAt Tryz.f95 0).2 lsEqfAts.keep lsEqfAts.left K [.row .attr b, .fn 96 [], .row .attr a, .int .i64 m, .int .i64 i] []) = (
Br (decide (i < m))
 (Rq ((0 : Int) ≤ i ∧ i < (↑a.length : Int))
 (Rq ((0 : Int) ≤ i ∧ i < (↑b.length : Int))
 (Br (!eqAt (At.mk (rd Ty.attr a i).1 (rd Ty.attr a i).2) (At.mk (rd Ty.attr b i).1 (rd Ty.attr b i).2))
 (K Ex.ret [AV.bool false] [])
 (K Ex.norm
 [AV.row Ty.attr b, AV.fn 96 [], AV.row Ty.attr a, AV.int IntKind.i64 m,
 AV.int IntKind.i64 (IntKind.i64.wrap (i + (1 : Int)))]
 []))))
 (K (Ex.exit (0 : Nat)) [AV.any] [])) := by kernel_rfl
theorem vcEqfAtsF (a b : List At) (Q : List AV → List Blk → List Blk → Prop) : (funA cxEqfAts (LL Tryz.f95 [lsEqfAts]) Tryz.f95 [.row .attr a, .row .attr b, .fn 96 []] [] [] Q) = (
Gv (a.length ≤ maxSl)
 (Gv (b.length ≤ maxSl)
 (Br ((↑a.length : Int) != (↑b.length : Int)) (Q [AV.bool false] [] [])
 (Gv (a.length ≤ maxSl)
 (Rq ((96 : Nat) = (96 : Nat))
 (Rq
 (a = a ∧
 (↑a.length : Int) = (↑a.length : Int) ∧ (0 : Int) = (0 : Int) ∧ a.length = b.length ∧ a.length ≤ maxSl)
 (Br (eql eqAt a b) (Q [AV.bool true] [] []) (Q [AV.bool false] [] [])))))))) := by kernel_rfl
theorem vcEqfNdsB (k : Nat) (a b : List Nd) (i m : Int) (K : Ex → List AV → List Blk → Prop) : (bodyA (cxEqfNds k) (LL Tryz.f93 [lsEqfNds k]) Tryz.f93.ntmps (loopAt Tryz.f93 0).1 (loopAt Tryz.f93 0).2 (lsEqfNds k).keep (lsEqfNds k).left K [.row .node b, .fn 94 [], .row .node a, .int .i64 m, .int .i64 i] []) = (
Br (decide (i < m))
 (Rq ((0 : Int) ≤ i ∧ i < (↑a.length : Int))
 (Rq ((0 : Int) ≤ i ∧ i < (↑b.length : Int))
 (Rq (szNds (rd Ty.node a i).6 < k)
 (Br
 (!eqNd
 (Nd.mk (rd Ty.node a i).1 (rd Ty.node a i).2 (rd Ty.node a i).3 (rd Ty.node a i).4 (rd Ty.node a i).5
 (rd Ty.node a i).6)
 (Nd.mk (rd Ty.node b i).1 (rd Ty.node b i).2 (rd Ty.node b i).3 (rd Ty.node b i).4 (rd Ty.node b i).5
 (rd Ty.node b i).6))
 (K Ex.ret [AV.bool false] [])
 (K Ex.norm
 [AV.row Ty.node b, AV.fn 94 [], AV.row Ty.node a, AV.int IntKind.i64 m,
 AV.int IntKind.i64 (IntKind.i64.wrap (i + (1 : Int)))]
 [])))))
 (K (Ex.exit (0 : Nat)) [AV.any] [])) := by kernel_rfl
theorem vcEqfNdsF (k : Nat) (a b : List Nd) (Q : List AV → List Blk → List Blk → Prop) : (funA (cxEqfNds k) (LL Tryz.f93 [lsEqfNds k]) Tryz.f93 [.row .node a, .row .node b, .fn 94 []] [] [] Q) = (
Gv (a.length ≤ maxSl)
 (Gv (b.length ≤ maxSl)
 (Br ((↑a.length : Int) != (↑b.length : Int)) (Q [AV.bool false] [] [])
 (Gv (a.length ≤ maxSl)
 (Rq ((94 : Nat) = (94 : Nat) ∧ szNds a < k + (1 : Nat))
 (Rq
 (a = a ∧
 (↑a.length : Int) = (↑a.length : Int) ∧ (0 : Int) = (0 : Int) ∧ a.length = b.length ∧ a.length ≤ maxSl)
 (Br (eql eqNd a b) (Q [AV.bool true] [] []) (Q [AV.bool false] [] [])))))))) := by kernel_rfl
theorem vcSame1F (k : Nat) (a b : Nd) (Q : List AV → List Blk → List Blk → Prop) : (funA (cxSame1 k) (LL Tryz.f94 []) Tryz.f94 [.agg (leaves .node a), .agg (leaves .node b)] [] [] Q) = (
Br (a.1 == b.1)
 (Br (a.2 == b.2)
 (Br (eqS a.3 b.3)
 (Br (eqS a.5 b.5)
 (Br (eql eqAt a.4 b.4) (Rq (szNds a.6 < k) (Q [AV.bool (eql eqNd a.6 b.6)] [] [])) (Q [AV.bool false] [] []))
 (Q [AV.bool false] [] []))
 (Q [AV.bool false] [] []))
 (Q [AV.bool false] [] []))
 (Q [AV.bool false] [] [])) := by kernel_rfl
theorem vcSameF (k : Nat) (a b : List Nd) (Q : List AV → List Blk → List Blk → Prop) : (funA (cxSame k) (LL Tryz.f76 []) Tryz.f76 [.row .node a, .row .node b] [] [] Q) = (
Rq (szNds a < k + (1 : Nat)) (Q [AV.bool (eql eqNd a b)] [] [])) := by kernel_rfl
end Go.Proofs.YtnhipiedjekkpaaGreatDoor.AX
end
section
namespace Go.Proofs.YtnhipiedjekkpaaGreatDoor.AX
open Go AXP
theorem ed_eta (x : Ed) : Ed.mk x.1 x.2 (Nd.mk x.old.1 x.old.2 x.old.3 x.old.4 x.old.5 x.old.6) (Nd.mk x.new.1 x.new.2 x.new.3 x.new.4 x.new.5 x.new.6) = x := by
  obtain ⟨_, _, ⟨⟩, ⟨⟩⟩ := x; rfl
theorem rd_ed {a : List Ed} {i : Nat} (h : i < a.length) : rd .edit a (i : Int) = a[i] := rd_get (t := .edit) h
end Go.Proofs.YtnhipiedjekkpaaGreatDoor.AX
end
section
namespace Go.Proofs.YtnhipiedjekkpaaGreatDoor.AX
open Go AXP
set_option maxRecDepth 100000
theorem eql_drop {α : Type} {f : α → α → Bool} {a b : List α} {i : Nat} (ha : i < a.length) (hb : i < b.length) : eql f (a.drop i) (b.drop i) = (f a[i] b[i] && eql f (a.drop (i + 1)) (b.drop (i + 1))) := by
  rw [List.drop_eq_getElem_cons ha, List.drop_eq_getElem_cons hb]; rfl
theorem eql_len {α : Type} {f : α → α → Bool} : ∀ {a b : List α}, a.length ≠ b.length → eql f a b = false
  | [], [], h => (h rfl).elim
  | [], _ :: _, _ => rfl
  | _ :: _, [], _ => rfl
  | x :: a, y :: b, h => by rw [eql, eql_len (a := a) (b := b) (by simpa using h), Bool.and_false]
theorem eql_sum {cx : Cx} {L : Loops} {n bl : Nat} {c : Code} {keep left : List (Tmp × Want)} {t : Ty} {f : den t → den t → Bool} {a b : List (den t)} {K : Ex → List AV → List Blk → Prop} (st : Nat → List AV) (hl : a.length = b.length)
    (hb : ∀ (i : Nat) (h : i < a.length) (h' : i < b.length), ∀ R : List AV → List Blk → Prop, (f a[i] b[i] = false → K .ret [.bool false] []) → (f a[i] b[i] = true → R (st (i + 1)) []) → bodyA cx L n bl c keep left (rk K R) (st i) [])
    (he : ∀ R, K (.exit 0) [.any] [] → bodyA cx L n bl c keep left (rk K R) (st a.length) [])
    (h : Br (eql f a b) (K (.exit 0) [.any] []) (K .ret [.bool false] [])) : ∃ m, roundsA cx L n bl c keep left K m (st 0) [] := by
  refine sum_for (fun i => eql f a b = eql f (a.drop i) (b.drop i)) st (fun _ => []) a.length (fun i hi hp R hR => ?_) (fun hp R => ?_) (by simp)
  · have hd := eql_drop (f := f) hi (by omega : i < b.length)
    refine hb i hi (by omega) R (fun h1 => h.no ?_) (fun h1 => hR ?_)
    · rw [hp, hd, h1, Bool.false_and]
    · rw [hp, hd, h1, Bool.true_and]
  · refine he R (h.yes ?_)
    rw [hp, List.drop_length, hl, List.drop_length]; rfl
theorem eqfAts_sum : SumOK cxEqfAts (LL Tryz.f95 [lsEqfAts]) Tryz.f95.ntmps (loopAt Tryz.f95 0).1 (loopAt Tryz.f95 0).2 lsEqfAts := by
  intro vs bs K hs
  unfold lsEqfAts at hs
  simp only at hs
  split at hs
  case h_2 => exact hs.elim
  rename_i b f a m i
  obtain ⟨rfl, ⟨_, rfl, rfl, hl, hm⟩, h⟩ := hs
  refine eql_sum (t := .attr) (fun i => [.row .attr b, .fn 96 [], .row .attr a, .int .i64 a.length, .int .i64 i]) hl (fun i hi hi' R h1 h2 => ?_) (fun R h1 => ?_) h
  · refine Eq.mpr (vcEqfAtsB a b i a.length _) ⟨fun _ => ⟨⟨by omega, by omega⟩, ⟨⟨by omega, by omega⟩, ?_⟩⟩, fun h => lt_of h hi⟩
    rw [rd_at hi, rd_at hi', wrap_succ hi hm]
    exact ⟨fun h => h1 (by simpa using h), fun h => h2 (by simpa using h)⟩
  · exact Eq.mpr (vcEqfAtsB a b a.length a.length _) ⟨fun h => not_lt_self h, fun _ => h1⟩
theorem eqfNds_sum (k : Nat) : SumOK (cxEqfNds k) (LL Tryz.f93 [lsEqfNds k]) Tryz.f93.ntmps (loopAt Tryz.f93 0).1 (loopAt Tryz.f93 0).2 (lsEqfNds k) := by
  intro vs bs K hs
  unfold lsEqfNds at hs
  simp only at hs
  split at hs
  case h_2 => exact hs.elim
  rename_i b f a m i
  obtain ⟨⟨rfl, hk⟩, ⟨_, rfl, rfl, hl, hm⟩, h⟩ := hs
  refine eql_sum (t := .node) (fun i => [.row .node b, .fn 94 [], .row .node a, .int .i64 a.length, .int .i64 i]) hl (fun i hi hi' R h1 h2 => ?_) (fun R h1 => ?_) h
  · refine Eq.mpr (vcEqfNdsB k a b i a.length _) ⟨fun _ => ⟨⟨by omega, by omega⟩, ⟨⟨by omega, by omega⟩, ?_⟩⟩, fun h => lt_of h hi⟩
    rw [rd_nd hi, rd_nd hi', wrap_succ hi hm, nd_eta, nd_eta]
    exact ⟨Nat.lt_of_lt_of_le (szNds_kids hi) (Nat.le_of_lt_succ hk), ⟨fun h => h1 (by simpa using h), fun h => h2 (by simpa using h)⟩⟩
  · exact Eq.mpr (vcEqfNdsB k a b a.length a.length _) ⟨fun h => not_lt_self h, fun _ => h1⟩
theorem eql_fun {t : Ty} {f : den t → den t → Bool} {a b : List (den t)} {Q : List AV → List Blk → List Blk → Prop} (X : Prop) (hX : X) (hQ : Q [AV.bool (eql f a b)] [] []) : Gv (a.length ≤ maxSl) (Gv (b.length ≤ maxSl) (Br ((a.length : Int) != (b.length : Int)) (Q [AV.bool false] [] [])
    (Gv (a.length ≤ maxSl) (Rq X (Rq (a = a ∧ (a.length : Int) = a.length ∧ (0 : Int) = 0 ∧ a.length = b.length ∧ a.length ≤ maxSl) (Br (eql f a b) (Q [AV.bool true] [] []) (Q [AV.bool false] [] []))))))) := by
  refine ⟨fun h1 => ⟨fun h2 => ⟨fun h3 => ?_, fun h3 => ⟨fun _ => ⟨hX, ⟨⟨rfl, rfl, rfl, ?_, h1⟩, ⟨fun h4 => ?_, fun h4 => ?_⟩⟩⟩⟩⟩⟩⟩
  · rw [eql_len (fun e => by simp [e] at h3)] at hQ; exact hQ
  · have h3 : (a.length : Int) = b.length := by simpa using h3
    omega
  · rw [h4] at hQ; exact hQ
  · rw [h4] at hQ; exact hQ
theorem atEq_holds : Holds 96 conAtEq := conP_holds fun a b => by
  refine fun_meets0 tok0 [] (by kernel_rfl) (by kernel_rfl) fun hpre => Eq.mpr (vcAtEqF a b _) (qfin rfl rfl rfl rfl)
theorem eqfAts_holds : Holds 95 conEqfAts := conP_holds fun a b _ => by
  refine fun_meets1 (AllH.tok (.cons atEq_holds (by kernel_rfl) .nil)) [] lsEqfAts (by kernel_rfl) (by kernel_rfl) eqfAts_sum fun hpre => Eq.mpr (vcEqfAtsF a b _) ?_
  exact eql_fun (t := .attr) (f := eqAt) (a := a) (b := b) (Q := FinQ _) _ rfl (qfin rfl rfl rfl rfl)
theorem same1_of {k : Nat} (h : Holds 76 (conSameLt k)) : Holds 94 (conSame1 k) := conP_holds fun a b => by
  refine fun_meets0 (AllH.tok (.cons eqfAts_holds (by kernel_rfl) (.cons h (by kernel_rfl) .nil))) [] (by kernel_rfl) (by kernel_rfl) fun hpre => Eq.mpr (vcSame1F k a b _) ?_
  have e := eqNd_eq a b
  rw [eqNds_eql] at e
  refine ⟨fun h1 => ⟨fun h2 => ⟨fun h3 => ⟨fun h4 => ⟨fun h5 => ⟨hpre _ rfl, qfin rfl ?_ rfl rfl⟩, fun h5 => qfin rfl ?_ rfl rfl⟩, fun h4 => qfin rfl ?_ rfl rfl⟩, fun h3 => qfin rfl ?_ rfl rfl⟩, fun h2 => qfin rfl ?_ rfl rfl⟩, fun h1 => qfin rfl ?_ rfl rfl⟩ <;>
  · show [AV.bool _] = [AV.bool _]
    rw [e]
    simp only [*, Bool.true_and, Bool.false_and, Bool.and_false]
theorem eqfNds_of {k : Nat} (h : Holds 94 (conSame1 k)) : Holds 93 (conEqfNds k) := conP_holds fun a b _ => by
  refine fun_meets1 (AllH.tok (.cons h (by kernel_rfl) .nil)) [] (lsEqfNds k) (by kernel_rfl) (by kernel_rfl) (eqfNds_sum k) fun hpre => Eq.mpr (vcEqfNdsF k a b _) ?_
  exact eql_fun (t := .node) (f := eqNd) (a := a) (b := b) (Q := FinQ _) _ ⟨rfl, hpre _ rfl⟩ (qfin rfl rfl rfl rfl)
theorem same_lt : ∀ k, Holds 76 (conSameLt k)
  | 0 => conP_holds fun a b F I w vals _ _ hpre => absurd (hpre _ rfl) (Nat.not_lt_zero _)
  | k + 1 => conP_holds fun a b => by
    refine fun_meets0 (AllH.tok (.cons (eqfNds_of (same1_of (same_lt k))) (by kernel_rfl) .nil)) [] (by kernel_rfl) (by kernel_rfl) fun hpre => Eq.mpr (vcSameF k a b _) ⟨hpre _ rfl, qfin rfl rfl rfl rfl⟩
theorem same_holds : Holds 76 conSame := conP_holds fun a b => 
  Meets.nopre (ans := { pre := some (szNds a < szNds a + 1), res := .bool (eql eqNd a b) }) (same_lt (szNds a + 1) [.row .node a, .row .node b] [] _ rfl) (fun p hp => by injection hp with hp; subst hp; exact Nat.lt_succ_self _)
end Go.Proofs.YtnhipiedjekkpaaGreatDoor.AX
end
section
namespace Go.Proofs.YtnhipiedjekkpaaGreatDoor.AXP
open Go Go.Proofs.YtnhipiedjekkpaaGreatDoor.AX
def bigB (s : ByteArray) : Bool := decide ((s.size : Int) > 65536)
def longA (a : At) : Bool := bigB a.name || bigB a.value
def ixL {α : Type} (p : α → Bool) : Nat → List α → Int
  | _, [] => -1
  | i, a :: l => if p a = true then i else ixL p (i + 1) l
def zeroB (n : Nd) : Bool := eql eqNd [n] [zN]
def rig1 (n : Nd) : Bool := checkS [n] == 0
def atsB (n : Nd) : Bool := zeroB ⟨n.kind, n.space, n.name, [], n.text, n.kids⟩ && decide ((n.attrs.length : Int) ≤ 12) && !n.attrs.any longA
def wdsB (n : Nd) : Bool := zeroB ⟨n.kind, n.space, n.name, n.attrs, ⟨#[]⟩, n.kids⟩ && !bigB n.text
def oddI (i : Int) : Bool := decide (i < 0) || decide (i > 300)
def partB (x : Ed) : Bool :=
  if x.what = 1 then zeroB x.old && rig1 x.new else if x.what = 2 then zeroB x.new && rig1 x.old
  else if x.what = 3 then atsB x.old && atsB x.new else if x.what = 4 then wdsB x.old && wdsB x.new else false
def plainB (x : Ed) : Bool := decide (1 ≤ x.what ∧ x.what ≤ 4) && decide ((x.way.length : Int) > 0) && decide ((x.way.length : Int) ≤ 41) && !x.way.any oddI && partB x
def npB (x : Ed) : Bool := !plainB x
def dchkS (s : List Ed) : Int := if (s.length : Int) > 400 then 2 else if s.any npB = true then 4 else 0
def jnOK (l : List ByteArray) : Bool := l.all fun s => !bigB s
def jnT : List ByteArray → List UInt8
  | [] => []
  | s :: l => if bigB s = true then [] else txtL (kb s) ++ jnT l
def jnS (l : List ByteArray) : ByteArray := if jnOK l = true then bk (txsL l) else ⟨#[]⟩
def jnE (l : List ByteArray) : Int := if jnOK l = true then 0 else 2
def lsE (l : List ByteArray) : Int := if (l.length : Int) > 1000 then 2 else jnE l
def lsS (l : List ByteArray) : ByteArray := if lsE l = 0 then bk (lstL l) else ⟨#[]⟩
def ndQ (n : Nd) : ByteArray := if bytE [n] = 0 then txtQ (bytS [n]) else ⟨#[]⟩
def ndE (n : Nd) : Int := if bytE [n] = 0 then txtE (bytS [n]) else bytE [n]
end Go.Proofs.YtnhipiedjekkpaaGreatDoor.AXP
namespace Go.Proofs.YtnhipiedjekkpaaGreatDoor.AX
open Go AXP
def conBigD : Con := conP [.str] fun (s : ByteArray) => { res := .bool (bigB s) }
noncomputable def cxAt1D : Cx := cxT (tabLook [(102, conBigD)])
def conAt1D : Con := conP [.agg .attr] fun (a : At) => { res := .bool (longA a) }
noncomputable def cxIxA : Cx := cxT (tabLook [(101, conAt1D)])
def lsIxA : LS where
  keep := [(0, .as), (1, .as), (7, .as), (8, .as)]
  left := [(4, .as)]
  sum := fun vs bs K => match vs, bs with
    | [.row .attr l, .fn f [], .int .i64 m, .int .i64 i], [] => Rq (f = 101 ∧ m = l.length ∧ i = 0 ∧ l.length ≤ maxSl) (Br (l.any longA) (K .ret [.int .i64 (ixL longA 0 l)] []) (K (.exit 0) [.any] []))
    | _, _ => False
def conIxA : Con := conP [.row .attr, .fn 101] fun (l : List At) _ => { res := .int .i64 (ixL longA 0 l) }
noncomputable def cxCfA : Cx := cxT (tabLook [(122, conIxA)])
def conCfA : Con := conP [.row .attr, .fn 101] fun (l : List At) _ => { res := .bool (l.any longA) }
noncomputable def cxZeroD : Cx := cxT (tabLook [(76, conSame)])
def conZeroD : Con := conP [.agg .node] fun (n : Nd) => { res := .bool (zeroB n) }
noncomputable def cxRigD : Cx := cxT (tabLook [(97, conChk)])
def conRigD : Con := conP [.agg .node] fun (n : Nd) => { pre := some (fineNds [n]), res := .bool (rig1 n) }
noncomputable def cxAtsD : Cx := cxT (tabLook [(100, conCfA), (79, conZeroD)])
def conAtsD : Con := conP [.agg .node] fun (n : Nd) => { res := .bool (atsB n) }
noncomputable def cxWdsD : Cx := cxT (tabLook [(102, conBigD), (79, conZeroD)])
def conWdsD : Con := conP [.agg .node] fun (n : Nd) => { res := .bool (wdsB n) }
noncomputable def cxPlk : Cx := cxT (tabLook [(79, conZeroD), (80, conRigD), (83, conAtsD), (86, conWdsD)])
def conPlIn : Con := conP [.agg .edit] fun (x : Ed) => { pre := some (fineNds [x.new]), res := .bool (zeroB x.old && rig1 x.new) }
def conPlOut : Con := conP [.agg .edit] fun (x : Ed) => { pre := some (fineNds [x.old]), res := .bool (zeroB x.new && rig1 x.old) }
def conPlAts : Con := conP [.agg .edit] fun (x : Ed) => { res := .bool (atsB x.old && atsB x.new) }
def conPlTxt : Con := conP [.agg .edit] fun (x : Ed) => { res := .bool (wdsB x.old && wdsB x.new) }
def conKd1 : Con := fun args hp => match args, hp with
  | [.int .i64 n], [] => some { pre := some (n = 1), res := .tup [.agg [.fn 44 [], .fn 45 [], .fn 46 []], .bool true] }
  | _, _ => none
def conKd2 : Con := fun args hp => match args, hp with
  | [.int .i64 n], [] => some { pre := some (n = 2), res := .tup [.agg [.fn 47 [], .fn 48 [], .fn 49 []], .bool true] }
  | _, _ => none
def conKd3 : Con := fun args hp => match args, hp with
  | [.int .i64 n], [] => some { pre := some (n = 3), res := .tup [.agg [.fn 50 [], .fn 51 [], .fn 52 []], .bool true] }
  | _, _ => none
def conKd4 : Con := fun args hp => match args, hp with
  | [.int .i64 n], [] => some { pre := some (n = 4), res := .tup [.agg [.fn 53 [], .fn 54 [], .fn 55 []], .bool true] }
  | _, _ => none
def conKd0 : Con := fun args hp => match args, hp with
  | [.int .i64 n], [] => some { pre := some (¬ (1 ≤ n ∧ n ≤ 4)), res := .tup [.agg [.any, .any, .any], .bool false] }
  | _, _ => none
def conKindsK : Nat → Con
  | 1 => conKd1
  | 2 => conKd2
  | 3 => conKd3
  | 4 => conKd4
  | _ => conKd0
def conOddI : Con := conP [.int] fun (i : Int) => { res := .bool (oddI i) }
noncomputable def cxIxI : Cx := cxT (tabLook [(63, conOddI)])
def lsIxI : LS where
  keep := [(0, .as), (1, .as), (7, .as), (8, .as)]
  left := [(4, .as)]
  sum := fun vs bs K => match vs, bs with
    | [.row .int l, .fn f [], .int .i64 m, .int .i64 i], [] => Rq (f = 63 ∧ m = l.length ∧ i = 0 ∧ l.length ≤ maxSl) (Br (l.any oddI) (K .ret [.int .i64 (ixL oddI 0 l)] []) (K (.exit 0) [.any] []))
    | _, _ => False
def conIxI : Con := conP [.row .int, .fn 63] fun (l : List Int) _ => { res := .int .i64 (ixL oddI 0 l) }
noncomputable def cxCfI : Cx := cxT (tabLook [(90, conIxI)])
def conCfI : Con := conP [.row .int, .fn 63] fun (l : List Int) _ => { res := .bool (l.any oddI) }
noncomputable def cxPlain (k : Nat) : Cx := cxT (tabLook [(23, conKindsK k), (62, conCfI), (44, conPlIn), (47, conPlOut), (50, conPlAts), (53, conPlTxt)])
def conPlain : Con := conP [.agg .edit] fun (x : Ed) => { pre := some (fineEd x), res := .bool (plainB x) }
noncomputable def cxCk1D : Cx := cxT (tabLook [(30, conPlain)])
def conCk1D : Con := conP [.agg .edit] fun (x : Ed) => { pre := some (fineEd x), res := .bool (npB x) }
noncomputable def cxIxE : Cx := cxT (tabLook [(29, conCk1D)])
def lsIxE : LS where
  keep := [(0, .as), (1, .as), (7, .as), (8, .as)]
  left := [(4, .as)]
  sum := fun vs bs K => match vs, bs with
    | [.row .edit l, .fn f [], .int .i64 m, .int .i64 i], [] => Rq (f = 29 ∧ m = l.length ∧ i = 0 ∧ l.length ≤ maxSl ∧ fineEds l) (Br (l.any npB) (K .ret [.int .i64 (ixL npB 0 l)] []) (K (.exit 0) [.any] []))
    | _, _ => False
def conIxE : Con := conP [.row .edit, .fn 29] fun (l : List Ed) _ => { pre := some (fineEds l), res := .int .i64 (ixL npB 0 l) }
noncomputable def cxCfE : Cx := cxT (tabLook [(61, conIxE)])
def conCfE : Con := conP [.row .edit, .fn 29] fun (l : List Ed) _ => { pre := some (fineEds l), res := .bool (l.any npB) }
noncomputable def cxCkD : Cx := cxT (tabLook [(28, conCfE)])
def conCkD : Con := conP [.row .edit] fun (s : List Ed) => { pre := some (fineEds s), res := .int .i64 (dchkS s) }
noncomputable def cxNumD : Cx := cxT (tabLook [(43, conNumQ)])
def conNumD : Con := conP [.int] fun (n : Int) => { res := .str (numS n) }
def lsJnL : LS where
  keep := [(4, .as), (9, .as), (10, .as), (11, .as)]
  left := [(4, .as), (2, .as), (3, .as)]
  sum := fun vs bs K => match vs, bs with
    | [.ptr 0 0, .row .str l, .int .i64 m, .int .i64 i], [.bld t] => Rq (m = l.length ∧ i = 0 ∧ t.size = 0 ∧ l.length ≤ 1000000) (Br (jnOK l) (K (.exit 0) [.ptr 0 0, .any, .any] [.bld (bk (jnT l))]) (K .ret [.ptr 0 0, .str ⟨#[]⟩, .int .i64 2] [.bld (bk (jnT l))]))
    | _, _ => False
def conJnL : Con := conP [.row .str] fun (l : List ByteArray) => { pre := some (l.length ≤ 1000000), res := .tup [.str (jnS l), .int .i64 (jnE l)] }
noncomputable def cxLst : Cx := cxT (tabLook [(105, conJnL), (43, conNumQ)])
def conLst : Con := conP [.row .str] fun (l : List ByteArray) => { res := .tup [.str (lsS l), .int .i64 (lsE l)] }
noncomputable def cxLstD : Cx := cxT (tabLook [(103, conLst)])
def lsLstD : LS where
  keep := [(3, .own .str), (8, .as), (9, .as), (10, .as)]
  left := [(3, .own .str)]
  sum := fun vs bs K => match vs, bs with
    | [.own 0 0, .row .attr l, .int .i64 m, .int .i64 i], [.rowb 0 .str o] => Rq (m = l.length ∧ i = 0 ∧ o.length = 0 ∧ l.length ≤ 1000000) (K (.exit 0) [.own 0 0] [.rowb 0 .str (flA l)])
    | _, _ => False
def conLstD : Con := conP [.row .attr] fun (l : List At) => { pre := some (l.length ≤ 1000000), res := .str (lsS (flA l)) }
noncomputable def cxNodeD : Cx := cxT (tabLook [(98, conByts), (87, conTxQ)])
def conNodeD : Con := conP [.agg .node] fun (n : Nd) => { pre := some (fineNds [n]), res := .tup [.str (ndQ n), .int .i64 (ndE n)] }
noncomputable def cxWrk : Cx := cxT (tabLook [(81, conNodeD), (84, conLstD), (87, conTxQ)])
def conWrIn : Con := conP [.agg .edit] fun (x : Ed) => { pre := some (fineNds [x.new]), res := .tup [.str (ndQ x.new), .int .i64 (ndE x.new)] }
def conWrOut : Con := conP [.agg .edit] fun (x : Ed) => { pre := some (fineNds [x.old]), res := .tup [.str (ndQ x.old), .int .i64 (ndE x.old)] }
def conWrAts : Con := conP [.agg .edit] fun (x : Ed) => { pre := some (x.old.attrs.length ≤ 1000 ∧ x.new.attrs.length ≤ 1000), res := .tup [.str (lsS (flA x.old.attrs) ++ lsS (flA x.new.attrs)), .int .i64 0] }
def conWrTxt : Con := conP [.agg .edit] fun (x : Ed) => { res := .tup [.str (txtQ x.old.text ++ txtQ x.new.text), .int .i64 (txtE x.new.text)] }
end Go.Proofs.YtnhipiedjekkpaaGreatDoor.AX
end
section
namespace Go.Proofs.YtnhipiedjekkpaaGreatDoor.AX
open Go AXP
set_option maxRecDepth 100000
theorem vcBigDF (s : ByteArray) (Q : List AV → List Blk → List Blk → Prop) : (funA cx0 (LL Tryz.f102 []) Tryz.f102 [.str s] [] [] Q) = (
Gv (s.size ≤ maxSl) (Q [AV.bool (decide ((↑s.size : Int) > (65536 : Int)))] [] [])) := by kernel_rfl
theorem vcAt1DF (a : At) (Q : List AV → List Blk → List Blk → Prop) : (funA cxAt1D (LL Tryz.f101 []) Tryz.f101 [.agg [.str a.name, .str a.value]] [] [] Q) = (
Br (bigB a.1) (Q [AV.bool true] [] []) (Q [AV.bool (bigB a.2)] [] [])) := by kernel_rfl
theorem vcIxAB (l : List At) (m i : Int) (K : Ex → List AV → List Blk → Prop) : (bodyA cxIxA (LL Tryz.f122 [lsIxA]) Tryz.f122.ntmps (loopAt Tryz.f122 0).1 (loopAt Tryz.f122 0).2 lsIxA.keep lsIxA.left K [.row .attr l, .fn 101 [], .int .i64 m, .int .i64 i] []) = (
Br (decide (i < m))
 (Rq ((0 : Int) ≤ i ∧ i < (↑l.length : Int))
 (Br (longA (At.mk (rd Ty.attr l i).1 (rd Ty.attr l i).2)) (K Ex.ret [AV.int IntKind.i64 i] [])
 (K Ex.norm
 [AV.row Ty.attr l, AV.fn 101 [], AV.int IntKind.i64 m,
 AV.int IntKind.i64 (IntKind.i64.wrap (i + (1 : Int)))]
 [])))
 (K (Ex.exit (0 : Nat)) [AV.any] [])) := by kernel_rfl
theorem vcIxAF (l : List At) (Q : List AV → List Blk → List Blk → Prop) : (funA cxIxA (LL Tryz.f122 [lsIxA]) Tryz.f122 [.row .attr l, .fn 101 []] [] [] Q) = (
Gv (l.length ≤ maxSl)
 (Rq ((101 : Nat) = (101 : Nat) ∧ (↑l.length : Int) = (↑l.length : Int) ∧ (0 : Int) = (0 : Int) ∧ l.length ≤ maxSl)
 (Br (l.any longA) (Q [AV.int IntKind.i64 (ixL longA (0 : Nat) l)] [] []) (Q [AV.int IntKind.i64 (-1 : Int)] [] [])))) := by kernel_rfl
theorem vcCfAF (l : List At) (Q : List AV → List Blk → List Blk → Prop) : (funA cxCfA (LL Tryz.f100 []) Tryz.f100 [.row .attr l, .fn 101 []] [] [] Q) = (
Q [AV.bool (decide (ixL longA (0 : Nat) l ≥ (0 : Int)))] [] []) := by kernel_rfl
theorem vcIxIB (l : List Int) (m i : Int) (K : Ex → List AV → List Blk → Prop) : (bodyA cxIxI (LL Tryz.f90 [lsIxI]) Tryz.f90.ntmps (loopAt Tryz.f90 0).1 (loopAt Tryz.f90 0).2 lsIxI.keep lsIxI.left K [.row .int l, .fn 63 [], .int .i64 m, .int .i64 i] []) = (
Br (decide (i < m))
 (Rq ((0 : Int) ≤ i ∧ i < (↑l.length : Int))
 (Br (oddI (rd Ty.int l i)) (K Ex.ret [AV.int IntKind.i64 i] [])
 (K Ex.norm
 [AV.row Ty.int l, AV.fn 63 [], AV.int IntKind.i64 m,
 AV.int IntKind.i64 (IntKind.i64.wrap (i + (1 : Int)))]
 [])))
 (K (Ex.exit (0 : Nat)) [AV.any] [])) := by kernel_rfl
theorem vcIxIF (l : List Int) (Q : List AV → List Blk → List Blk → Prop) : (funA cxIxI (LL Tryz.f90 [lsIxI]) Tryz.f90 [.row .int l, .fn 63 []] [] [] Q) = (
Gv (l.length ≤ maxSl)
 (Rq ((63 : Nat) = (63 : Nat) ∧ (↑l.length : Int) = (↑l.length : Int) ∧ (0 : Int) = (0 : Int) ∧ l.length ≤ maxSl)
 (Br (l.any oddI) (Q [AV.int IntKind.i64 (ixL oddI (0 : Nat) l)] [] []) (Q [AV.int IntKind.i64 (-1 : Int)] [] [])))) := by kernel_rfl
theorem vcCfIF (l : List Int) (Q : List AV → List Blk → List Blk → Prop) : (funA cxCfI (LL Tryz.f62 []) Tryz.f62 [.row .int l, .fn 63 []] [] [] Q) = (
Q [AV.bool (decide (ixL oddI (0 : Nat) l ≥ (0 : Int)))] [] []) := by kernel_rfl
theorem vcIxEB (l : List Ed) (m i : Int) (K : Ex → List AV → List Blk → Prop) : (bodyA cxIxE (LL Tryz.f61 [lsIxE]) Tryz.f61.ntmps (loopAt Tryz.f61 0).1 (loopAt Tryz.f61 0).2 lsIxE.keep lsIxE.left K [.row .edit l, .fn 29 [], .int .i64 m, .int .i64 i] []) = (
Br (decide (i < m))
 (Rq ((0 : Int) ≤ i ∧ i < (↑l.length : Int))
 (Rq
 (fineEd
 (Ed.mk (rd Ty.edit l i).1 (rd Ty.edit l i).2
 (Nd.mk (rd Ty.edit l i).3.1 (rd Ty.edit l i).3.2 (rd Ty.edit l i).3.3 (rd Ty.edit l i).3.4
 (rd Ty.edit l i).3.5 (rd Ty.edit l i).3.6)
 (Nd.mk (rd Ty.edit l i).4.1 (rd Ty.edit l i).4.2 (rd Ty.edit l i).4.3 (rd Ty.edit l i).4.4
 (rd Ty.edit l i).4.5 (rd Ty.edit l i).4.6)))
 (Br
 (npB
 (Ed.mk (rd Ty.edit l i).1 (rd Ty.edit l i).2
 (Nd.mk (rd Ty.edit l i).3.1 (rd Ty.edit l i).3.2 (rd Ty.edit l i).3.3 (rd Ty.edit l i).3.4
 (rd Ty.edit l i).3.5 (rd Ty.edit l i).3.6)
 (Nd.mk (rd Ty.edit l i).4.1 (rd Ty.edit l i).4.2 (rd Ty.edit l i).4.3 (rd Ty.edit l i).4.4
 (rd Ty.edit l i).4.5 (rd Ty.edit l i).4.6)))
 (K Ex.ret [AV.int IntKind.i64 i] [])
 (K Ex.norm
 [AV.row Ty.edit l, AV.fn 29 [], AV.int IntKind.i64 m,
 AV.int IntKind.i64 (IntKind.i64.wrap (i + (1 : Int)))]
 []))))
 (K (Ex.exit (0 : Nat)) [AV.any] [])) := by kernel_rfl
theorem vcIxEF (l : List Ed) (Q : List AV → List Blk → List Blk → Prop) : (funA cxIxE (LL Tryz.f61 [lsIxE]) Tryz.f61 [.row .edit l, .fn 29 []] [] [] Q) = (
Gv (l.length ≤ maxSl)
 (Rq
 ((29 : Nat) = (29 : Nat) ∧
 (↑l.length : Int) = (↑l.length : Int) ∧ (0 : Int) = (0 : Int) ∧ l.length ≤ maxSl ∧ fineEds l)
 (Br (l.any npB) (Q [AV.int IntKind.i64 (ixL npB (0 : Nat) l)] [] []) (Q [AV.int IntKind.i64 (-1 : Int)] [] [])))) := by kernel_rfl
theorem vcCfEF (l : List Ed) (Q : List AV → List Blk → List Blk → Prop) : (funA cxCfE (LL Tryz.f28 []) Tryz.f28 [.row .edit l, .fn 29 []] [] [] Q) = (
Rq (fineEds l) (Q [AV.bool (decide (ixL npB (0 : Nat) l ≥ (0 : Int)))] [] [])) := by kernel_rfl
theorem vcZeroDF (n : Nd) (Q : List AV → List Blk → List Blk → Prop) : (funA cxZeroD (LL Tryz.f79 []) Tryz.f79 [.agg (nodeL n)] [] [] Q) = (
Q
 [AV.bool
 (eql eqNd [Nd.mk n.1 n.2 n.3 n.4 n.5 n.6]
 [Nd.mk (0 : Int) (0 : Int) (ByteArray.mk (Array.mk [])) [] (ByteArray.mk (Array.mk [])) []])]
 [] []) := by kernel_rfl
theorem vcRigDF (n : Nd) (Q : List AV → List Blk → List Blk → Prop) : (funA cxRigD (LL Tryz.f80 []) Tryz.f80 [.agg (nodeL n)] [] [] Q) = (
Rq (fineNds [Nd.mk n.1 n.2 n.3 n.4 n.5 n.6]) (Q [AV.bool (checkS [Nd.mk n.1 n.2 n.3 n.4 n.5 n.6] == (0 : Int))] [] [])) := by kernel_rfl
theorem vcAtsDF (n : Nd) (Q : List AV → List Blk → List Blk → Prop) : (funA cxAtsD (LL Tryz.f83 []) Tryz.f83 [.agg (nodeL n)] [] [] Q) = (
Gv (n.4.length ≤ maxSl)
 (Br (zeroB (Nd.mk n.1 n.2 n.3 [] n.5 n.6))
 (Br (decide ((↑n.4.length : Int) ≤ (12 : Int))) (Q [AV.bool !n.4.any longA] [] []) (Q [AV.bool false] [] []))
 (Q [AV.bool false] [] []))) := by kernel_rfl
theorem vcWdsDF (n : Nd) (Q : List AV → List Blk → List Blk → Prop) : (funA cxWdsD (LL Tryz.f86 []) Tryz.f86 [.agg (nodeL n)] [] [] Q) = (
Br (zeroB (Nd.mk n.1 n.2 n.3 n.4 (ByteArray.mk (Array.mk [])) n.6)) (Q [AV.bool !bigB n.5] [] [])
 (Q [AV.bool false] [] [])) := by kernel_rfl
theorem vcPlInF (x : Ed) (Q : List AV → List Blk → List Blk → Prop) : (funA cxPlk (LL Tryz.f44 []) Tryz.f44 [.agg (editL x)] [] [] Q) = (
Br (zeroB (Nd.mk x.3.1 x.3.2 x.3.3 x.3.4 x.3.5 x.3.6))
 (Rq (fineNds [Nd.mk x.4.1 x.4.2 x.4.3 x.4.4 x.4.5 x.4.6])
 (Q [AV.bool (rig1 (Nd.mk x.4.1 x.4.2 x.4.3 x.4.4 x.4.5 x.4.6))] [] []))
 (Q [AV.bool false] [] [])) := by kernel_rfl
theorem vcPlOutF (x : Ed) (Q : List AV → List Blk → List Blk → Prop) : (funA cxPlk (LL Tryz.f47 []) Tryz.f47 [.agg (editL x)] [] [] Q) = (
Br (zeroB (Nd.mk x.4.1 x.4.2 x.4.3 x.4.4 x.4.5 x.4.6))
 (Rq (fineNds [Nd.mk x.3.1 x.3.2 x.3.3 x.3.4 x.3.5 x.3.6])
 (Q [AV.bool (rig1 (Nd.mk x.3.1 x.3.2 x.3.3 x.3.4 x.3.5 x.3.6))] [] []))
 (Q [AV.bool false] [] [])) := by kernel_rfl
theorem vcPlAttrsF (x : Ed) (Q : List AV → List Blk → List Blk → Prop) : (funA cxPlk (LL Tryz.f50 []) Tryz.f50 [.agg (editL x)] [] [] Q) = (
Br (atsB (Nd.mk x.3.1 x.3.2 x.3.3 x.3.4 x.3.5 x.3.6))
 (Q [AV.bool (atsB (Nd.mk x.4.1 x.4.2 x.4.3 x.4.4 x.4.5 x.4.6))] [] []) (Q [AV.bool false] [] [])) := by kernel_rfl
theorem vcPlTextF (x : Ed) (Q : List AV → List Blk → List Blk → Prop) : (funA cxPlk (LL Tryz.f53 []) Tryz.f53 [.agg (editL x)] [] [] Q) = (
Br (wdsB (Nd.mk x.3.1 x.3.2 x.3.3 x.3.4 x.3.5 x.3.6))
 (Q [AV.bool (wdsB (Nd.mk x.4.1 x.4.2 x.4.3 x.4.4 x.4.5 x.4.6))] [] []) (Q [AV.bool false] [] [])) := by kernel_rfl
theorem vcKindsF (n : Int) (Q : List AV → List Blk → List Blk → Prop) : (funA cx0 (LL Tryz.f23 []) Tryz.f23 [.int .i64 n] [] [] Q) = (
Br (decide (n < (1 : Int))) (Q [AV.agg [AV.any, AV.any, AV.any], AV.bool false] [] [])
 (Br (decide (n > (4 : Int))) (Q [AV.agg [AV.any, AV.any, AV.any], AV.bool false] [] [])
 (Rq
 ((0 : Int) ≤ IntKind.i64.wrap (n - (1 : Int)) ∧
 IntKind.i64.wrap (n - (1 : Int)) <
 (↑[Kf.mk 44 45 46, Kf.mk 47 48 49,
 Kf.mk 50 51 52, Kf.mk 53 54 55].length :
 Int))
 (Q
 [AV.agg
 [AV.fn
 (rd Ty.fns
 [Kf.mk 44 45 46, Kf.mk 47 48 49,
 Kf.mk 50 51 52, Kf.mk 53 54 55]
 (IntKind.i64.wrap (n - (1 : Int)))).1
 [],
 AV.fn
 (rd Ty.fns
 [Kf.mk 44 45 46, Kf.mk 47 48 49,
 Kf.mk 50 51 52, Kf.mk 53 54 55]
 (IntKind.i64.wrap (n - (1 : Int)))).2
 [],
 AV.fn
 (rd Ty.fns
 [Kf.mk 44 45 46, Kf.mk 47 48 49,
 Kf.mk 50 51 52, Kf.mk 53 54 55]
 (IntKind.i64.wrap (n - (1 : Int)))).3
 []],
 AV.bool true]
 [] [])))) := by kernel_rfl
theorem vcOddIF (i : Int) (Q : List AV → List Blk → List Blk → Prop) : (funA cx0 (LL Tryz.f63 []) Tryz.f63 [.int .i64 i] [] [] Q) = (
Br (decide (i < (0 : Int))) (Q [AV.bool true] [] []) (Q [AV.bool (decide (i > (300 : Int)))] [] [])) := by kernel_rfl
theorem vcPlain0F (x : Ed) (Q : List AV → List Blk → List Blk → Prop) : (funA (cxPlain 0) (LL Tryz.f30 []) Tryz.f30 [.agg (editL x)] [] [] Q) = (
Rq (¬((1 : Int) ≤ x.1 ∧ x.1 ≤ (4 : Int)))
 (Br false
 (Br (decide ((↑x.2.length : Int) > (0 : Int)))
 (Br (decide ((↑x.2.length : Int) ≤ (41 : Int)))
 (Br (!x.2.any oddI) False (Gv (x.2.length ≤ maxSl) (Gv (x.2.length ≤ maxSl) (Q [AV.bool false] [] []))))
 (Gv (x.2.length ≤ maxSl) (Gv (x.2.length ≤ maxSl) (Q [AV.bool false] [] []))))
 (Gv (x.2.length ≤ maxSl) (Q [AV.bool false] [] [])))
 (Q [AV.bool false] [] []))) := by kernel_rfl
theorem vcPlain1F (x : Ed) (Q : List AV → List Blk → List Blk → Prop) : (funA (cxPlain 1) (LL Tryz.f30 []) Tryz.f30 [.agg (editL x)] [] [] Q) = (
Rq (x.1 = (1 : Int))
 (Br true
 (Br (decide ((↑x.2.length : Int) > (0 : Int)))
 (Br (decide ((↑x.2.length : Int) ≤ (41 : Int)))
 (Br (!x.2.any oddI)
 (Rq (fineNds [Nd.mk x.4.1 x.4.2 x.4.3 x.4.4 x.4.5 x.4.6])
 (Gv (x.2.length ≤ maxSl)
 (Gv (x.2.length ≤ maxSl)
 (Q
 [AV.bool
 (zeroB (Nd.mk x.3.1 x.3.2 x.3.3 x.3.4 x.3.5 x.3.6) &&
 rig1 (Nd.mk x.4.1 x.4.2 x.4.3 x.4.4 x.4.5 x.4.6))]
 [] []))))
 (Gv (x.2.length ≤ maxSl) (Gv (x.2.length ≤ maxSl) (Q [AV.bool false] [] []))))
 (Gv (x.2.length ≤ maxSl) (Gv (x.2.length ≤ maxSl) (Q [AV.bool false] [] []))))
 (Gv (x.2.length ≤ maxSl) (Q [AV.bool false] [] [])))
 (Q [AV.bool false] [] []))) := by kernel_rfl
theorem vcPlain2F (x : Ed) (Q : List AV → List Blk → List Blk → Prop) : (funA (cxPlain 2) (LL Tryz.f30 []) Tryz.f30 [.agg (editL x)] [] [] Q) = (
Rq (x.1 = (2 : Int))
 (Br true
 (Br (decide ((↑x.2.length : Int) > (0 : Int)))
 (Br (decide ((↑x.2.length : Int) ≤ (41 : Int)))
 (Br (!x.2.any oddI)
 (Rq (fineNds [Nd.mk x.3.1 x.3.2 x.3.3 x.3.4 x.3.5 x.3.6])
 (Gv (x.2.length ≤ maxSl)
 (Gv (x.2.length ≤ maxSl)
 (Q
 [AV.bool
 (zeroB (Nd.mk x.4.1 x.4.2 x.4.3 x.4.4 x.4.5 x.4.6) &&
 rig1 (Nd.mk x.3.1 x.3.2 x.3.3 x.3.4 x.3.5 x.3.6))]
 [] []))))
 (Gv (x.2.length ≤ maxSl) (Gv (x.2.length ≤ maxSl) (Q [AV.bool false] [] []))))
 (Gv (x.2.length ≤ maxSl) (Gv (x.2.length ≤ maxSl) (Q [AV.bool false] [] []))))
 (Gv (x.2.length ≤ maxSl) (Q [AV.bool false] [] [])))
 (Q [AV.bool false] [] []))) := by kernel_rfl
theorem vcPlain3F (x : Ed) (Q : List AV → List Blk → List Blk → Prop) : (funA (cxPlain 3) (LL Tryz.f30 []) Tryz.f30 [.agg (editL x)] [] [] Q) = (
Rq (x.1 = (3 : Int))
 (Br true
 (Br (decide ((↑x.2.length : Int) > (0 : Int)))
 (Br (decide ((↑x.2.length : Int) ≤ (41 : Int)))
 (Br (!x.2.any oddI)
 (Gv (x.2.length ≤ maxSl)
 (Gv (x.2.length ≤ maxSl)
 (Q
 [AV.bool
 (atsB (Nd.mk x.3.1 x.3.2 x.3.3 x.3.4 x.3.5 x.3.6) &&
 atsB (Nd.mk x.4.1 x.4.2 x.4.3 x.4.4 x.4.5 x.4.6))]
 [] [])))
 (Gv (x.2.length ≤ maxSl) (Gv (x.2.length ≤ maxSl) (Q [AV.bool false] [] []))))
 (Gv (x.2.length ≤ maxSl) (Gv (x.2.length ≤ maxSl) (Q [AV.bool false] [] []))))
 (Gv (x.2.length ≤ maxSl) (Q [AV.bool false] [] [])))
 (Q [AV.bool false] [] []))) := by kernel_rfl
theorem vcPlain4F (x : Ed) (Q : List AV → List Blk → List Blk → Prop) : (funA (cxPlain 4) (LL Tryz.f30 []) Tryz.f30 [.agg (editL x)] [] [] Q) = (
Rq (x.1 = (4 : Int))
 (Br true
 (Br (decide ((↑x.2.length : Int) > (0 : Int)))
 (Br (decide ((↑x.2.length : Int) ≤ (41 : Int)))
 (Br (!x.2.any oddI)
 (Gv (x.2.length ≤ maxSl)
 (Gv (x.2.length ≤ maxSl)
 (Q
 [AV.bool
 (wdsB (Nd.mk x.3.1 x.3.2 x.3.3 x.3.4 x.3.5 x.3.6) &&
 wdsB (Nd.mk x.4.1 x.4.2 x.4.3 x.4.4 x.4.5 x.4.6))]
 [] [])))
 (Gv (x.2.length ≤ maxSl) (Gv (x.2.length ≤ maxSl) (Q [AV.bool false] [] []))))
 (Gv (x.2.length ≤ maxSl) (Gv (x.2.length ≤ maxSl) (Q [AV.bool false] [] []))))
 (Gv (x.2.length ≤ maxSl) (Q [AV.bool false] [] [])))
 (Q [AV.bool false] [] []))) := by kernel_rfl
theorem vcCk1DF (x : Ed) (Q : List AV → List Blk → List Blk → Prop) : (funA cxCk1D (LL Tryz.f29 []) Tryz.f29 [.agg (editL x)] [] [] Q) = (
Rq (fineEd (Ed.mk x.1 x.2 (Nd.mk x.3.1 x.3.2 x.3.3 x.3.4 x.3.5 x.3.6) (Nd.mk x.4.1 x.4.2 x.4.3 x.4.4 x.4.5 x.4.6)))
 (Q
 [AV.bool
 !plainB (Ed.mk x.1 x.2 (Nd.mk x.3.1 x.3.2 x.3.3 x.3.4 x.3.5 x.3.6) (Nd.mk x.4.1 x.4.2 x.4.3 x.4.4 x.4.5 x.4.6))]
 [] [])) := by kernel_rfl
theorem vcCkDF (s : List Ed) (Q : List AV → List Blk → List Blk → Prop) : (funA cxCkD (LL Tryz.f13 []) Tryz.f13 [.row .edit s] [] [] Q) = (
Gv (s.length ≤ maxSl)
 (Br (decide ((↑s.length : Int) > (400 : Int))) (Q [AV.int IntKind.i64 (2 : Int)] [] [])
 (Rq (fineEds s) (Br (s.any npB) (Q [AV.int IntKind.i64 (4 : Int)] [] []) (Q [AV.int IntKind.i64 (0 : Int)] [] []))))) := by kernel_rfl
theorem vcNumDF (n : Int) (Q : List AV → List Blk → List Blk → Prop) : (funA cxNumD (LL Tryz.f22 []) Tryz.f22 [.int .i64 n] [] [] Q) = (
Q [AV.str (numS n)] [] []) := by kernel_rfl
theorem vcJnLB (t : ByteArray) (l : List ByteArray) (m i : Int) (K : Ex → List AV → List Blk → Prop) : (bodyA cxJnQ (LL Tryz.f105 [lsJnL]) Tryz.f105.ntmps (loopAt Tryz.f105 0).1 (loopAt Tryz.f105 0).2 lsJnL.keep lsJnL.left K [.ptr 0 0, .row .str l, .int .i64 m, .int .i64 i] [.bld t]) = (
Br (decide (i < m))
 (Rq ((0 : Int) ≤ i ∧ i < (↑l.length : Int))
 (Gv (ByteArray.size (rd Ty.str l i) ≤ maxSl)
 (Br (decide ((↑(ByteArray.size (rd Ty.str l i)) : Int) > (65536 : Int)))
 (K Ex.ret [AV.ptr (0 : Nat) (0 : Nat), AV.str (ByteArray.mk (Array.mk [])), AV.int IntKind.i64 (2 : Int)]
 [Blk.bld t])
 (Gv (ByteArray.size (rd Ty.str l i) ≤ maxSl)
 (Rq ((numS (↑(ByteArray.size (rd Ty.str l i)) : Int)).size + ByteArray.size (rd Ty.str l i) ≤ maxSl)
 (Rq (t.size + (numS (↑(ByteArray.size (rd Ty.str l i)) : Int) ++ rd Ty.str l i).size ≤ maxSl)
 (K Ex.norm
 [AV.ptr (0 : Nat) (0 : Nat), AV.row Ty.str l, AV.int IntKind.i64 m,
 AV.int IntKind.i64 (IntKind.i64.wrap (i + (1 : Int)))]
 [Blk.bld (t ++ (numS (↑(ByteArray.size (rd Ty.str l i)) : Int) ++ rd Ty.str l i))])))))))
 (K (Ex.exit (0 : Nat)) [AV.ptr (0 : Nat) (0 : Nat), AV.any, AV.any] [Blk.bld t])) := by kernel_rfl
theorem vcJnLF (l : List ByteArray) (Q : List AV → List Blk → List Blk → Prop) : (funA cxJnQ (LL Tryz.f105 [lsJnL]) Tryz.f105 [.row .str l] [] [] Q) = (
Gv (l.length ≤ maxSl)
 (Rq
 ((↑l.length : Int) = (↑l.length : Int) ∧
 (0 : Int) = (0 : Int) ∧ (ByteArray.mk (Array.mk [])).size = (0 : Nat) ∧ l.length ≤ (1000000 : Nat))
 (Br (jnOK l) (Rq ((bk (jnT l)).size ≤ maxSl) (Q [AV.str (bk (jnT l)), AV.int IntKind.i64 (0 : Int)] [] []))
 (Q [AV.str (ByteArray.mk (Array.mk [])), AV.int IntKind.i64 (2 : Int)] [] [])))) := by kernel_rfl
theorem vcLstF (l : List ByteArray) (Q : List AV → List Blk → List Blk → Prop) : (funA cxLst (LL Tryz.f103 []) Tryz.f103 [.row .str l] [] [] Q) = (
Gv (l.length ≤ maxSl)
 (Br (decide ((↑l.length : Int) > (1000 : Int)))
 (Q [AV.str (ByteArray.mk (Array.mk [])), AV.int IntKind.i64 (2 : Int)] [] [])
 (Rq (l.length ≤ (1000000 : Nat))
 (Br (jnE l != (0 : Int)) (Q [AV.str (ByteArray.mk (Array.mk [])), AV.int IntKind.i64 (jnE l)] [] [])
 (Gv (l.length ≤ maxSl)
 (Rq ((numS (↑l.length : Int)).size + (jnS l).size ≤ maxSl)
 (Q [AV.str (numS (↑l.length : Int) ++ jnS l), AV.int IntKind.i64 (0 : Int)] [] []))))))) := by kernel_rfl
theorem vcLstDB (o : List ByteArray) (l : List At) (m i : Int) (K : Ex → List AV → List Blk → Prop) : (bodyA cxLstD (LL Tryz.f84 [lsLstD]) Tryz.f84.ntmps (loopAt Tryz.f84 0).1 (loopAt Tryz.f84 0).2 lsLstD.keep lsLstD.left K [.own 0 0, .row .attr l, .int .i64 m, .int .i64 i] [.rowb 0 .str o]) = (
Br (decide (i < m))
 (Rq ((0 : Int) ≤ i ∧ i < (↑l.length : Int))
 (Rq ((o.length + [(rd Ty.attr l i).1, (rd Ty.attr l i).2].length) * (16 : Nat) ≤ maxSl)
 (K Ex.norm
 [AV.own (0 : Nat) (0 : Nat), AV.row Ty.attr l, AV.int IntKind.i64 m,
 AV.int IntKind.i64 (IntKind.i64.wrap (i + (1 : Int)))]
 [Blk.rowb (0 : Nat) Ty.str (o ++ [(rd Ty.attr l i).1, (rd Ty.attr l i).2])])))
 (K (Ex.exit (0 : Nat)) [AV.own (0 : Nat) (0 : Nat)] [Blk.rowb (0 : Nat) Ty.str o])) := by kernel_rfl
theorem vcLstDF (l : List At) (Q : List AV → List Blk → List Blk → Prop) : (funA cxLstD (LL Tryz.f84 [lsLstD]) Tryz.f84 [.row .attr l] [] [] Q) = (
Gv (l.length ≤ maxSl)
 (Rq
 ((↑l.length : Int) = (↑l.length : Int) ∧ (0 : Int) = (0 : Int) ∧ (0 : Nat) = (0 : Nat) ∧ l.length ≤ (1000000 : Nat))
 (Q [AV.str (lsS (flA l))] [] []))) := by kernel_rfl
theorem vcNodeDF (n : Nd) (Q : List AV → List Blk → List Blk → Prop) : (funA cxNodeD (LL Tryz.f81 []) Tryz.f81 [.agg (nodeL n)] [] [] Q) = (
Rq (fineNds [Nd.mk n.1 n.2 n.3 n.4 n.5 n.6])
 (Br (bytE [Nd.mk n.1 n.2 n.3 n.4 n.5 n.6] != (0 : Int))
 (Q [AV.str (ByteArray.mk (Array.mk [])), AV.int IntKind.i64 (bytE [Nd.mk n.1 n.2 n.3 n.4 n.5 n.6])] [] [])
 (Q
 [AV.str (txtQ (bytS [Nd.mk n.1 n.2 n.3 n.4 n.5 n.6])),
 AV.int IntKind.i64 (txtE (bytS [Nd.mk n.1 n.2 n.3 n.4 n.5 n.6]))]
 [] []))) := by kernel_rfl
theorem vcWrInF (x : Ed) (Q : List AV → List Blk → List Blk → Prop) : (funA cxWrk (LL Tryz.f45 []) Tryz.f45 [.agg (editL x)] [] [] Q) = (
Rq (fineNds [Nd.mk x.4.1 x.4.2 x.4.3 x.4.4 x.4.5 x.4.6])
 (Q
 [AV.str (ndQ (Nd.mk x.4.1 x.4.2 x.4.3 x.4.4 x.4.5 x.4.6)),
 AV.int IntKind.i64 (ndE (Nd.mk x.4.1 x.4.2 x.4.3 x.4.4 x.4.5 x.4.6))]
 [] [])) := by kernel_rfl
theorem vcWrOutF (x : Ed) (Q : List AV → List Blk → List Blk → Prop) : (funA cxWrk (LL Tryz.f48 []) Tryz.f48 [.agg (editL x)] [] [] Q) = (
Rq (fineNds [Nd.mk x.3.1 x.3.2 x.3.3 x.3.4 x.3.5 x.3.6])
 (Q
 [AV.str (ndQ (Nd.mk x.3.1 x.3.2 x.3.3 x.3.4 x.3.5 x.3.6)),
 AV.int IntKind.i64 (ndE (Nd.mk x.3.1 x.3.2 x.3.3 x.3.4 x.3.5 x.3.6))]
 [] [])) := by kernel_rfl
theorem vcWrAttrsF (x : Ed) (Q : List AV → List Blk → List Blk → Prop) : (funA cxWrk (LL Tryz.f51 []) Tryz.f51 [.agg (editL x)] [] [] Q) = (
Rq (x.3.4.length ≤ (1000000 : Nat))
 (Rq (x.4.4.length ≤ (1000000 : Nat))
 (Rq ((lsS (flA x.3.4)).size + (lsS (flA x.4.4)).size ≤ maxSl)
 (Q [AV.str (lsS (flA x.3.4) ++ lsS (flA x.4.4)), AV.int IntKind.i64 (0 : Int)] [] [])))) := by kernel_rfl
theorem vcWrTextF (x : Ed) (Q : List AV → List Blk → List Blk → Prop) : (funA cxWrk (LL Tryz.f54 []) Tryz.f54 [.agg (editL x)] [] [] Q) = (
Rq ((txtQ x.3.5).size + (txtQ x.4.5).size ≤ maxSl)
 (Q [AV.str (txtQ x.3.5 ++ txtQ x.4.5), AV.int IntKind.i64 (txtE x.4.5)] [] [])) := by kernel_rfl
end Go.Proofs.YtnhipiedjekkpaaGreatDoor.AX
end
