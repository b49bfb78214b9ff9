/-
  NARROWER THAN 'FOR EVERY INPUT', by the rows' own cells (each row's printed sentence says how): DagPages: laid · DagBases: laid · DagFollows: laid · DagOwn: laid.
  DERIVED. THE GIVEN ROWS OF THIS SEAT. 4 by the template 'for every input the law returns true; each argument reads behind the call as it read before'; 0 by the template 'total and deterministic' (their statements: YtgopimjfoppkmaaDoorTotals.lean).
  GIVEN WITH THE SEED: the statements are not yours to turn. If you find one false, say at which input.
  Laid BY PROGRAM, IN A SANDBOX (cutbox-rows.mjs): the forced cells as the released guide's own fill.sh prints them over the translation fd13289b3362f2f9… (all of the seat's roots in one cut). By AI agents, Wed Nov 11 2026. No macro, syntax, notation, axiom, sorry.
-/
import Derived.Test.YtgopimjfoppkmaaDoorChecked
import GoSem.Claim
import GoSem.ClaimJoined
import GoSem.ClaimMapViews
import Derived.JoinedTies
import Derived.KernelRfl
namespace Go.Proofs.YtgopimjfoppkmaaDoor
/- THE CELL 'sum', in the pinned program and in every row, IS THE sha256 OF THE DUMP (.gsa) THAT YtgopimjfoppkmaaDoorProg.lean LOADS. Nothing in Lean hashes anything: it is a label: what it is worth is what the hold of that sum in a sandbox is worth. -/
noncomputable def Tryd.pinned : Pinned := { name := "ytgopimjfoppkmaadoor", sum := "fd13289b3362f2f90e6aff738a706ac944a6b28c540ef5d2e58a6cc1eac92f05", checked := Tryd.checked }
namespace Rows
def none {H : Type} : Left H := { results := [], args := [] }

/- WHAT THE LISTED PACKAGE-LEVEL VARIABLES READ AS WHEN THE CALL BEGINS. Each datum BY PROGRAM (the guide's laid-datum.mjs) off the statement by which the dump's own 'gosem.cut.vars' lays the variable. In a bare row this is a premise. The card (YtgopimjfoppkmaaDoorCards.lean) ties it to the program's text. -/
def laid_recto_utf_rows {H : Type} : DataW H := .agg [.agg [.lit (.int .i64 0), .lit (.int .i64 0)], .agg [.lit (.int .i64 0), .lit (.int .i64 0)], .agg [.lit (.int .i64 192), .lit (.int .i64 128)], .agg [.lit (.int .i64 224), .lit (.int .i64 2048)], .agg [.lit (.int .i64 240), .lit (.int .i64 65536)]]

/-- 'rectolaw31.DagPages': WHATEVER THE INPUT: true; the input reads as it did. -/
def dagPagesSpec : ChangeSpec := { name := "dagPages", fn := fun _ => fun
  | [d1, d2] => { results := [.lit (.bool true)], args := [d1, d2] }
  | _ => none }
def dagPagesRow : OpenClaim := { program := "ytgopimjfoppkmaadoor", sum := "fd13289b3362f2f90e6aff738a706ac944a6b28c540ef5d2e58a6cc1eac92f05", func := "recto/rectolaw31.DagPages", spec := "dagPages", unfollowed := true, recurses := true, named := ["recto/utf.rows"], apart := false, laid := [("recto/utf.rows", laid_recto_utf_rows)] }
def DagPagesSaid : Prop := dagPagesRow.holds Tryd.pinned (OpenSpec.ofChange dagPagesSpec)

/-- ITS FALSE NEIGHBOUR: 'it returns false'. Refute it at one input. -/
def dagPagesWrong : ChangeSpec := { name := "dagPages", fn := fun _ => fun
  | [d1, d2] => { results := [.lit (.bool false)], args := [d1, d2] }
  | _ => none }
def DagPagesWrongFalsely : Prop := dagPagesRow.holds Tryd.pinned (OpenSpec.ofChange dagPagesWrong)

/-- 'rectolaw31.DagBases': WHATEVER THE INPUT: true; the input reads as it did. -/
def dagBasesSpec : ChangeSpec := { name := "dagBases", fn := fun _ => fun
  | [d1, d2, d3] => { results := [.lit (.bool true)], args := [d1, d2, d3] }
  | _ => none }
def dagBasesRow : OpenClaim := { program := "ytgopimjfoppkmaadoor", sum := "fd13289b3362f2f90e6aff738a706ac944a6b28c540ef5d2e58a6cc1eac92f05", func := "recto/rectolaw31.DagBases", spec := "dagBases", unfollowed := true, recurses := true, named := ["recto/utf.rows"], apart := false, laid := [("recto/utf.rows", laid_recto_utf_rows)] }
def DagBasesSaid : Prop := dagBasesRow.holds Tryd.pinned (OpenSpec.ofChange dagBasesSpec)

/-- ITS FALSE NEIGHBOUR: 'it returns false'. Refute it at one input. -/
def dagBasesWrong : ChangeSpec := { name := "dagBases", fn := fun _ => fun
  | [d1, d2, d3] => { results := [.lit (.bool false)], args := [d1, d2, d3] }
  | _ => none }
def DagBasesWrongFalsely : Prop := dagBasesRow.holds Tryd.pinned (OpenSpec.ofChange dagBasesWrong)

/-- 'rectolaw31.DagFollows': WHATEVER THE INPUT: true; the input reads as it did. -/
def dagFollowsSpec : ChangeSpec := { name := "dagFollows", fn := fun _ => fun
  | [d1, d2, d3] => { results := [.lit (.bool true)], args := [d1, d2, d3] }
  | _ => none }
def dagFollowsRow : OpenClaim := { program := "ytgopimjfoppkmaadoor", sum := "fd13289b3362f2f90e6aff738a706ac944a6b28c540ef5d2e58a6cc1eac92f05", func := "recto/rectolaw31.DagFollows", spec := "dagFollows", unfollowed := true, recurses := true, named := ["recto/utf.rows"], apart := false, laid := [("recto/utf.rows", laid_recto_utf_rows)] }
def DagFollowsSaid : Prop := dagFollowsRow.holds Tryd.pinned (OpenSpec.ofChange dagFollowsSpec)

/-- ITS FALSE NEIGHBOUR: 'it returns false'. Refute it at one input. -/
def dagFollowsWrong : ChangeSpec := { name := "dagFollows", fn := fun _ => fun
  | [d1, d2, d3] => { results := [.lit (.bool false)], args := [d1, d2, d3] }
  | _ => none }
def DagFollowsWrongFalsely : Prop := dagFollowsRow.holds Tryd.pinned (OpenSpec.ofChange dagFollowsWrong)

/-- 'rectolaw31.DagOwn': WHATEVER THE INPUT: true; the input reads as it did. -/
def dagOwnSpec : ChangeSpec := { name := "dagOwn", fn := fun _ => fun
  | [d1, d2] => { results := [.lit (.bool true)], args := [d1, d2] }
  | _ => none }
def dagOwnRow : OpenClaim := { program := "ytgopimjfoppkmaadoor", sum := "fd13289b3362f2f90e6aff738a706ac944a6b28c540ef5d2e58a6cc1eac92f05", func := "recto/rectolaw31.DagOwn", spec := "dagOwn", unfollowed := true, recurses := true, named := ["recto/utf.rows"], apart := false, laid := [("recto/utf.rows", laid_recto_utf_rows)] }
def DagOwnSaid : Prop := dagOwnRow.holds Tryd.pinned (OpenSpec.ofChange dagOwnSpec)

/-- ITS FALSE NEIGHBOUR: 'it returns false'. Refute it at one input. -/
def dagOwnWrong : ChangeSpec := { name := "dagOwn", fn := fun _ => fun
  | [d1, d2] => { results := [.lit (.bool false)], args := [d1, d2] }
  | _ => none }
def DagOwnWrongFalsely : Prop := dagOwnRow.holds Tryd.pinned (OpenSpec.ofChange dagOwnWrong)

/- THE SECOND FORM. 'bulk': how many values and letters a reading holds, each counted each time it is reached (what is shared counts as often as it is met; a slice's spare places count too). A statement '..UptoSaid' is the law's where the arguments, and the package variables that the reading takes, are together of bulk at most 1048576: NARROWER than '..Said'. Prove '..Said' where nothing that the law and all that it calls make is longer than what came in: it says more and counts as full. Else prove '..UptoSaid'. A law counts once. -/
mutual
def uptoBulk {H : Type} : DataW H → Nat
  | .lit (.string bytes) => bytes.length + 1
  | .lit _ => 1
  | .nil => 1
  | .ptr d => uptoBulk d + 1
  | .slice elems spare => uptoBulkAll elems + uptoBulkAll spare + 1
  | .agg parts => uptoBulkAll parts + 1
  | .iface _ d => uptoBulk d + 1
  | .map entries => uptoBulkEntries entries + 1
  | .held _ => 1
def uptoBulkAll {H : Type} : List (DataW H) → Nat
  | [] => 0
  | d :: r => uptoBulk d + uptoBulkAll r
def uptoBulkEntries {H : Type} : List (Lit × DataW H) → Nat
  | [] => 0
  | x :: r => uptoBulkEntry x + uptoBulkEntries r
def uptoBulkEntry {H : Type} : Lit × DataW H → Nat
  | (.string bytes, d) => bytes.length + uptoBulk d + 1
  | (_, d) => uptoBulk d + 1
 end
def uptoSmall : (H : Type) → List (DataW H) → Bool := fun _ ds => decide (uptoBulkAll ds ≤ 1048576)
def OpenSpec.upto (s : _root_.Go.ChangeSpec) : _root_.Go.OpenSpec := { _root_.Go.OpenSpec.ofChange s with cond := some uptoSmall }

/-- 'rectolaw31.DagPages', WHERE WHAT IT READS IS OF BULK AT MOST 1048576: true; the input reads as it did. -/
def dagPagesUptoRow : OpenClaim := { program := "ytgopimjfoppkmaadoor", sum := "fd13289b3362f2f90e6aff738a706ac944a6b28c540ef5d2e58a6cc1eac92f05", func := "recto/rectolaw31.DagPages", spec := "dagPages", unfollowed := true, recurses := true, named := ["recto/utf.rows"], apart := false, laid := [("recto/utf.rows", laid_recto_utf_rows)], narrowed := true }
def DagPagesUptoSaid : Prop := dagPagesUptoRow.holds Tryd.pinned (OpenSpec.upto dagPagesSpec)

/-- 'rectolaw31.DagBases', WHERE WHAT IT READS IS OF BULK AT MOST 1048576: true; the input reads as it did. -/
def dagBasesUptoRow : OpenClaim := { program := "ytgopimjfoppkmaadoor", sum := "fd13289b3362f2f90e6aff738a706ac944a6b28c540ef5d2e58a6cc1eac92f05", func := "recto/rectolaw31.DagBases", spec := "dagBases", unfollowed := true, recurses := true, named := ["recto/utf.rows"], apart := false, laid := [("recto/utf.rows", laid_recto_utf_rows)], narrowed := true }
def DagBasesUptoSaid : Prop := dagBasesUptoRow.holds Tryd.pinned (OpenSpec.upto dagBasesSpec)

/-- 'rectolaw31.DagFollows', WHERE WHAT IT READS IS OF BULK AT MOST 1048576: true; the input reads as it did. -/
def dagFollowsUptoRow : OpenClaim := { program := "ytgopimjfoppkmaadoor", sum := "fd13289b3362f2f90e6aff738a706ac944a6b28c540ef5d2e58a6cc1eac92f05", func := "recto/rectolaw31.DagFollows", spec := "dagFollows", unfollowed := true, recurses := true, named := ["recto/utf.rows"], apart := false, laid := [("recto/utf.rows", laid_recto_utf_rows)], narrowed := true }
def DagFollowsUptoSaid : Prop := dagFollowsUptoRow.holds Tryd.pinned (OpenSpec.upto dagFollowsSpec)

/-- 'rectolaw31.DagOwn', WHERE WHAT IT READS IS OF BULK AT MOST 1048576: true; the input reads as it did. -/
def dagOwnUptoRow : OpenClaim := { program := "ytgopimjfoppkmaadoor", sum := "fd13289b3362f2f90e6aff738a706ac944a6b28c540ef5d2e58a6cc1eac92f05", func := "recto/rectolaw31.DagOwn", spec := "dagOwn", unfollowed := true, recurses := true, named := ["recto/utf.rows"], apart := false, laid := [("recto/utf.rows", laid_recto_utf_rows)], narrowed := true }
def DagOwnUptoSaid : Prop := dagOwnUptoRow.holds Tryd.pinned (OpenSpec.upto dagOwnSpec)

end Rows
end Go.Proofs.YtgopimjfoppkmaaDoor
