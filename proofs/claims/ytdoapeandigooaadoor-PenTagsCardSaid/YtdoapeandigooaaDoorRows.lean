/-
  NARROWER THAN 'FOR EVERY INPUT', by the rows' own cells (each row's printed sentence says how): CharsReady: laid · CharsLower: laid · CharsKinds: laid · CharsTexts: laid · CharsWords: laid · CharsStays: laid · PenTags: laid · PenTexts: laid.
  DERIVED. THE GIVEN ROWS OF THIS SEAT. 8 by the template 'for every input the law returns true; each argument reads behind the call as it read before'; 0 by the template 'total and deterministic' (their statements: YtdoapeandigooaaDoorTotals.lean).
  GIVEN WITH THE SEED: the statements are not yours to turn. If you find one false, say at which input.
  Laid BY PROGRAM, IN A SANDBOX (cutbox-rows.mjs): the forced cells as the released guide's own fill.sh prints them over the translation 62579078a9e17aed… (all of the seat's roots in one cut). By AI agents, Wed Nov 11 2026. No macro, syntax, notation, axiom, sorry.
-/
import Derived.Test.YtdoapeandigooaaDoorChecked
import GoSem.PinnedTables
import GoSem.Claim
import GoSem.ClaimJoined
import GoSem.ClaimMapViews
import Derived.JoinedTies
import Derived.KernelRfl
namespace Go.Proofs.YtdoapeandigooaaDoor
/- THE CELL 'sum', in the pinned program and in every row, IS THE sha256 OF THE DUMP (.gsa) THAT YtdoapeandigooaaDoorProg.lean LOADS. Nothing in Lean hashes anything: it is a label: what it is worth is what the hold of that sum in a sandbox is worth. -/
noncomputable def Tryd.pinned : Pinned := { name := "ytdoapeandigooaadoor", sum := "62579078a9e17aed92671180fee50052e5550a0654c8d0c5986680f67f80c786", checked := Tryd.checked }
namespace Rows
def none {H : Type} : Left H := { results := [], args := [] }

/- WHAT THE LISTED PACKAGE-LEVEL VARIABLES READ AS WHEN THE CALL BEGINS. Each datum BY PROGRAM (the guide's laid-datum.mjs) off the statement by which the dump's own 'gosem.cut.vars' lays the variable. In a bare row this is a premise. The card (YtdoapeandigooaaDoorCards.lean) ties it to the program's text. -/
def laid_unicode_utf8_acceptRanges {H : Type} : DataW H := .agg [.agg [.lit (.int .u8 128), .lit (.int .u8 191)], .agg [.lit (.int .u8 160), .lit (.int .u8 191)], .agg [.lit (.int .u8 128), .lit (.int .u8 159)], .agg [.lit (.int .u8 144), .lit (.int .u8 191)], .agg [.lit (.int .u8 128), .lit (.int .u8 143)], .agg [.lit (.int .u8 0), .lit (.int .u8 0)], .agg [.lit (.int .u8 0), .lit (.int .u8 0)], .agg [.lit (.int .u8 0), .lit (.int .u8 0)], .agg [.lit (.int .u8 0), .lit (.int .u8 0)], .agg [.lit (.int .u8 0), .lit (.int .u8 0)], .agg [.lit (.int .u8 0), .lit (.int .u8 0)], .agg [.lit (.int .u8 0), .lit (.int .u8 0)], .agg [.lit (.int .u8 0), .lit (.int .u8 0)], .agg [.lit (.int .u8 0), .lit (.int .u8 0)], .agg [.lit (.int .u8 0), .lit (.int .u8 0)], .agg [.lit (.int .u8 0), .lit (.int .u8 0)]]
def laid_recto_utf_rows {H : Type} : DataW H := .agg [.agg [.lit (.int .i64 0), .lit (.int .i64 0)], .agg [.lit (.int .i64 0), .lit (.int .i64 0)], .agg [.lit (.int .i64 192), .lit (.int .i64 128)], .agg [.lit (.int .i64 224), .lit (.int .i64 2048)], .agg [.lit (.int .i64 240), .lit (.int .i64 65536)]]
/-- One of Go's own tables, pinned by name: the form's constant. -/
def laid_unicode_utf8_first : DataW Unit := Go.Pinned.utf8First

/-- 'rectolaw03.CharsReady': WHATEVER THE INPUT: true; the input reads as it did. -/
def charsReadySpec : ChangeSpec := { name := "charsReady", fn := fun _ => fun
  | [d] => { results := [.lit (.bool true)], args := [d] }
  | _ => none }
def charsReadyRow : OpenClaim := { program := "ytdoapeandigooaadoor", sum := "62579078a9e17aed92671180fee50052e5550a0654c8d0c5986680f67f80c786", func := "recto/rectolaw03.CharsReady", spec := "charsReady", inPlace := ["internal/bytealg.CountString", "internal/bytealg.IndexByteString", "internal/bytealg.IndexString", "internal/abi.NoEscape", "internal/bytealg.MakeNoZero"], recurses := true, named := ["internal/bytealg.MaxLen", "unicode/utf8.first", "unicode/utf8.acceptRanges", "recto/utf.rows"], apart := false, laid := [("unicode/utf8.acceptRanges", laid_unicode_utf8_acceptRanges), ("recto/utf.rows", laid_recto_utf_rows), ("unicode/utf8.first", laid_unicode_utf8_first)] }
def CharsReadySaid : Prop := charsReadyRow.holds Tryd.pinned (OpenSpec.ofChange charsReadySpec)

/-- ITS FALSE NEIGHBOUR: 'it returns false'. Refute it at one input. -/
def charsReadyWrong : ChangeSpec := { name := "charsReady", fn := fun _ => fun
  | [d] => { results := [.lit (.bool false)], args := [d] }
  | _ => none }
def CharsReadyWrongFalsely : Prop := charsReadyRow.holds Tryd.pinned (OpenSpec.ofChange charsReadyWrong)

/-- 'rectolaw03.CharsLower': WHATEVER THE INPUT: true; the input reads as it did. -/
def charsLowerSpec : ChangeSpec := { name := "charsLower", fn := fun _ => fun
  | [d1, d2] => { results := [.lit (.bool true)], args := [d1, d2] }
  | _ => none }
def charsLowerRow : OpenClaim := { program := "ytdoapeandigooaadoor", sum := "62579078a9e17aed92671180fee50052e5550a0654c8d0c5986680f67f80c786", func := "recto/rectolaw03.CharsLower", spec := "charsLower", inPlace := ["internal/bytealg.CountString", "internal/bytealg.IndexByteString", "internal/bytealg.IndexString", "internal/abi.NoEscape", "internal/bytealg.MakeNoZero"], named := ["internal/bytealg.MaxLen", "unicode/utf8.first", "unicode/utf8.acceptRanges", "recto/utf.rows"], apart := false, laid := [("unicode/utf8.acceptRanges", laid_unicode_utf8_acceptRanges), ("recto/utf.rows", laid_recto_utf_rows), ("unicode/utf8.first", laid_unicode_utf8_first)] }
def CharsLowerSaid : Prop := charsLowerRow.holds Tryd.pinned (OpenSpec.ofChange charsLowerSpec)

/-- ITS FALSE NEIGHBOUR: 'it returns false'. Refute it at one input. -/
def charsLowerWrong : ChangeSpec := { name := "charsLower", fn := fun _ => fun
  | [d1, d2] => { results := [.lit (.bool false)], args := [d1, d2] }
  | _ => none }
def CharsLowerWrongFalsely : Prop := charsLowerRow.holds Tryd.pinned (OpenSpec.ofChange charsLowerWrong)

/-- 'rectolaw03.CharsKinds': WHATEVER THE INPUT: true; the input reads as it did. -/
def charsKindsSpec : ChangeSpec := { name := "charsKinds", fn := fun _ => fun
  | [d] => { results := [.lit (.bool true)], args := [d] }
  | _ => none }
def charsKindsRow : OpenClaim := { program := "ytdoapeandigooaadoor", sum := "62579078a9e17aed92671180fee50052e5550a0654c8d0c5986680f67f80c786", func := "recto/rectolaw03.CharsKinds", spec := "charsKinds", inPlace := ["internal/bytealg.CountString", "internal/bytealg.IndexByteString", "internal/bytealg.IndexString", "internal/abi.NoEscape", "internal/bytealg.MakeNoZero"], named := ["internal/bytealg.MaxLen", "unicode/utf8.first", "unicode/utf8.acceptRanges", "recto/utf.rows"], apart := false, laid := [("unicode/utf8.acceptRanges", laid_unicode_utf8_acceptRanges), ("recto/utf.rows", laid_recto_utf_rows), ("unicode/utf8.first", laid_unicode_utf8_first)] }
def CharsKindsSaid : Prop := charsKindsRow.holds Tryd.pinned (OpenSpec.ofChange charsKindsSpec)

/-- ITS FALSE NEIGHBOUR: 'it returns false'. Refute it at one input. -/
def charsKindsWrong : ChangeSpec := { name := "charsKinds", fn := fun _ => fun
  | [d] => { results := [.lit (.bool false)], args := [d] }
  | _ => none }
def CharsKindsWrongFalsely : Prop := charsKindsRow.holds Tryd.pinned (OpenSpec.ofChange charsKindsWrong)

/-- 'rectolaw03.CharsTexts': WHATEVER THE INPUT: true; the input reads as it did. -/
def charsTextsSpec : ChangeSpec := { name := "charsTexts", fn := fun _ => fun
  | [d] => { results := [.lit (.bool true)], args := [d] }
  | _ => none }
def charsTextsRow : OpenClaim := { program := "ytdoapeandigooaadoor", sum := "62579078a9e17aed92671180fee50052e5550a0654c8d0c5986680f67f80c786", func := "recto/rectolaw03.CharsTexts", spec := "charsTexts", inPlace := ["internal/bytealg.CountString", "internal/bytealg.IndexByteString", "internal/bytealg.IndexString", "internal/abi.NoEscape", "internal/bytealg.MakeNoZero"], named := ["internal/bytealg.MaxLen", "unicode/utf8.first", "unicode/utf8.acceptRanges", "recto/utf.rows"], apart := false, laid := [("unicode/utf8.acceptRanges", laid_unicode_utf8_acceptRanges), ("recto/utf.rows", laid_recto_utf_rows), ("unicode/utf8.first", laid_unicode_utf8_first)] }
def CharsTextsSaid : Prop := charsTextsRow.holds Tryd.pinned (OpenSpec.ofChange charsTextsSpec)

/-- ITS FALSE NEIGHBOUR: 'it returns false'. Refute it at one input. -/
def charsTextsWrong : ChangeSpec := { name := "charsTexts", fn := fun _ => fun
  | [d] => { results := [.lit (.bool false)], args := [d] }
  | _ => none }
def CharsTextsWrongFalsely : Prop := charsTextsRow.holds Tryd.pinned (OpenSpec.ofChange charsTextsWrong)

/-- 'rectolaw03.CharsWords': WHATEVER THE INPUT: true; the input reads as it did. -/
def charsWordsSpec : ChangeSpec := { name := "charsWords", fn := fun _ => fun
  | [d] => { results := [.lit (.bool true)], args := [d] }
  | _ => none }
def charsWordsRow : OpenClaim := { program := "ytdoapeandigooaadoor", sum := "62579078a9e17aed92671180fee50052e5550a0654c8d0c5986680f67f80c786", func := "recto/rectolaw03.CharsWords", spec := "charsWords", inPlace := ["internal/bytealg.CountString", "internal/bytealg.IndexByteString", "internal/bytealg.IndexString", "internal/abi.NoEscape", "internal/bytealg.MakeNoZero"], named := ["internal/bytealg.MaxLen", "unicode/utf8.first", "unicode/utf8.acceptRanges", "recto/utf.rows"], apart := false, laid := [("unicode/utf8.acceptRanges", laid_unicode_utf8_acceptRanges), ("recto/utf.rows", laid_recto_utf_rows), ("unicode/utf8.first", laid_unicode_utf8_first)] }
def CharsWordsSaid : Prop := charsWordsRow.holds Tryd.pinned (OpenSpec.ofChange charsWordsSpec)

/-- ITS FALSE NEIGHBOUR: 'it returns false'. Refute it at one input. -/
def charsWordsWrong : ChangeSpec := { name := "charsWords", fn := fun _ => fun
  | [d] => { results := [.lit (.bool false)], args := [d] }
  | _ => none }
def CharsWordsWrongFalsely : Prop := charsWordsRow.holds Tryd.pinned (OpenSpec.ofChange charsWordsWrong)

/-- 'rectolaw03.CharsStays': WHATEVER THE INPUT: true; the input reads as it did. -/
def charsStaysSpec : ChangeSpec := { name := "charsStays", fn := fun _ => fun
  | [d] => { results := [.lit (.bool true)], args := [d] }
  | _ => none }
def charsStaysRow : OpenClaim := { program := "ytdoapeandigooaadoor", sum := "62579078a9e17aed92671180fee50052e5550a0654c8d0c5986680f67f80c786", func := "recto/rectolaw03.CharsStays", spec := "charsStays", inPlace := ["internal/bytealg.CountString", "internal/bytealg.IndexByteString", "internal/bytealg.IndexString", "internal/abi.NoEscape", "internal/bytealg.MakeNoZero"], named := ["internal/bytealg.MaxLen", "unicode/utf8.first", "unicode/utf8.acceptRanges", "recto/utf.rows"], apart := false, laid := [("unicode/utf8.acceptRanges", laid_unicode_utf8_acceptRanges), ("recto/utf.rows", laid_recto_utf_rows), ("unicode/utf8.first", laid_unicode_utf8_first)] }
def CharsStaysSaid : Prop := charsStaysRow.holds Tryd.pinned (OpenSpec.ofChange charsStaysSpec)

/-- ITS FALSE NEIGHBOUR: 'it returns false'. Refute it at one input. -/
def charsStaysWrong : ChangeSpec := { name := "charsStays", fn := fun _ => fun
  | [d] => { results := [.lit (.bool false)], args := [d] }
  | _ => none }
def CharsStaysWrongFalsely : Prop := charsStaysRow.holds Tryd.pinned (OpenSpec.ofChange charsStaysWrong)

/-- 'rectolaw06.PenTags': WHATEVER THE INPUT: true; the input reads as it did. -/
def penTagsSpec : ChangeSpec := { name := "penTags", fn := fun _ => fun
  | [d1, d2] => { results := [.lit (.bool true)], args := [d1, d2] }
  | _ => none }
def penTagsRow : OpenClaim := { program := "ytdoapeandigooaadoor", sum := "62579078a9e17aed92671180fee50052e5550a0654c8d0c5986680f67f80c786", func := "recto/rectolaw06.PenTags", spec := "penTags", inPlace := ["internal/abi.NoEscape", "internal/bytealg.CountString", "internal/bytealg.IndexByteString", "internal/bytealg.IndexString", "internal/bytealg.MakeNoZero"], unfollowed := true, recurses := true, named := ["recto/utf.rows", "internal/bytealg.MaxLen", "unicode/utf8.first", "unicode/utf8.acceptRanges"], apart := false, laid := [("unicode/utf8.acceptRanges", laid_unicode_utf8_acceptRanges), ("recto/utf.rows", laid_recto_utf_rows), ("unicode/utf8.first", laid_unicode_utf8_first)] }
def PenTagsSaid : Prop := penTagsRow.holds Tryd.pinned (OpenSpec.ofChange penTagsSpec)

/-- ITS FALSE NEIGHBOUR: 'it returns false'. Refute it at one input. -/
def penTagsWrong : ChangeSpec := { name := "penTags", fn := fun _ => fun
  | [d1, d2] => { results := [.lit (.bool false)], args := [d1, d2] }
  | _ => none }
def PenTagsWrongFalsely : Prop := penTagsRow.holds Tryd.pinned (OpenSpec.ofChange penTagsWrong)

/-- 'rectolaw06.PenTexts': WHATEVER THE INPUT: true; the input reads as it did. -/
def penTextsSpec : ChangeSpec := { name := "penTexts", fn := fun _ => fun
  | [d1, d2] => { results := [.lit (.bool true)], args := [d1, d2] }
  | _ => none }
def penTextsRow : OpenClaim := { program := "ytdoapeandigooaadoor", sum := "62579078a9e17aed92671180fee50052e5550a0654c8d0c5986680f67f80c786", func := "recto/rectolaw06.PenTexts", spec := "penTexts", inPlace := ["internal/abi.NoEscape", "internal/bytealg.CountString", "internal/bytealg.IndexByteString", "internal/bytealg.IndexString", "internal/bytealg.MakeNoZero"], unfollowed := true, recurses := true, named := ["recto/utf.rows", "internal/bytealg.MaxLen", "unicode/utf8.first", "unicode/utf8.acceptRanges"], apart := false, laid := [("unicode/utf8.acceptRanges", laid_unicode_utf8_acceptRanges), ("recto/utf.rows", laid_recto_utf_rows), ("unicode/utf8.first", laid_unicode_utf8_first)] }
def PenTextsSaid : Prop := penTextsRow.holds Tryd.pinned (OpenSpec.ofChange penTextsSpec)

/-- ITS FALSE NEIGHBOUR: 'it returns false'. Refute it at one input. -/
def penTextsWrong : ChangeSpec := { name := "penTexts", fn := fun _ => fun
  | [d1, d2] => { results := [.lit (.bool false)], args := [d1, d2] }
  | _ => none }
def PenTextsWrongFalsely : Prop := penTextsRow.holds Tryd.pinned (OpenSpec.ofChange penTextsWrong)

/- THE SECOND FORM. 'bulk': how many values and letters a reading holds, each counted each time it is reached (what is shared counts as often as it is met; a slice's spare places count too). A statement '..UptoSaid' is the law's where the arguments, and the package variables that the reading takes, are together of bulk at most 1048576: NARROWER than '..Said'. Prove '..Said' where nothing that the law and all that it calls make is longer than what came in: it says more and counts as full. Else prove '..UptoSaid'. A law counts once. -/
mutual
def uptoBulk {H : Type} : DataW H → Nat
  | .lit (.string bytes) => bytes.length + 1
  | .lit _ => 1
  | .nil => 1
  | .ptr d => uptoBulk d + 1
  | .slice elems spare => uptoBulkAll elems + uptoBulkAll spare + 1
  | .agg parts => uptoBulkAll parts + 1
  | .iface _ d => uptoBulk d + 1
  | .map entries => uptoBulkEntries entries + 1
  | .held _ => 1
def uptoBulkAll {H : Type} : List (DataW H) → Nat
  | [] => 0
  | d :: r => uptoBulk d + uptoBulkAll r
def uptoBulkEntries {H : Type} : List (Lit × DataW H) → Nat
  | [] => 0
  | x :: r => uptoBulkEntry x + uptoBulkEntries r
def uptoBulkEntry {H : Type} : Lit × DataW H → Nat
  | (.string bytes, d) => bytes.length + uptoBulk d + 1
  | (_, d) => uptoBulk d + 1
 end
def uptoSmall : (H : Type) → List (DataW H) → Bool := fun _ ds => decide (uptoBulkAll ds ≤ 1048576)
def OpenSpec.upto (s : _root_.Go.ChangeSpec) : _root_.Go.OpenSpec := { _root_.Go.OpenSpec.ofChange s with cond := some uptoSmall }

/-- 'rectolaw03.CharsReady', WHERE WHAT IT READS IS OF BULK AT MOST 1048576: true; the input reads as it did. -/
def charsReadyUptoRow : OpenClaim := { program := "ytdoapeandigooaadoor", sum := "62579078a9e17aed92671180fee50052e5550a0654c8d0c5986680f67f80c786", func := "recto/rectolaw03.CharsReady", spec := "charsReady", inPlace := ["internal/bytealg.CountString", "internal/bytealg.IndexByteString", "internal/bytealg.IndexString", "internal/abi.NoEscape", "internal/bytealg.MakeNoZero"], recurses := true, named := ["internal/bytealg.MaxLen", "unicode/utf8.first", "unicode/utf8.acceptRanges", "recto/utf.rows"], apart := false, laid := [("unicode/utf8.acceptRanges", laid_unicode_utf8_acceptRanges), ("recto/utf.rows", laid_recto_utf_rows), ("unicode/utf8.first", laid_unicode_utf8_first)], narrowed := true }
def CharsReadyUptoSaid : Prop := charsReadyUptoRow.holds Tryd.pinned (OpenSpec.upto charsReadySpec)

/-- 'rectolaw03.CharsLower', WHERE WHAT IT READS IS OF BULK AT MOST 1048576: true; the input reads as it did. -/
def charsLowerUptoRow : OpenClaim := { program := "ytdoapeandigooaadoor", sum := "62579078a9e17aed92671180fee50052e5550a0654c8d0c5986680f67f80c786", func := "recto/rectolaw03.CharsLower", spec := "charsLower", inPlace := ["internal/bytealg.CountString", "internal/bytealg.IndexByteString", "internal/bytealg.IndexString", "internal/abi.NoEscape", "internal/bytealg.MakeNoZero"], named := ["internal/bytealg.MaxLen", "unicode/utf8.first", "unicode/utf8.acceptRanges", "recto/utf.rows"], apart := false, laid := [("unicode/utf8.acceptRanges", laid_unicode_utf8_acceptRanges), ("recto/utf.rows", laid_recto_utf_rows), ("unicode/utf8.first", laid_unicode_utf8_first)], narrowed := true }
def CharsLowerUptoSaid : Prop := charsLowerUptoRow.holds Tryd.pinned (OpenSpec.upto charsLowerSpec)

/-- 'rectolaw03.CharsKinds', WHERE WHAT IT READS IS OF BULK AT MOST 1048576: true; the input reads as it did. -/
def charsKindsUptoRow : OpenClaim := { program := "ytdoapeandigooaadoor", sum := "62579078a9e17aed92671180fee50052e5550a0654c8d0c5986680f67f80c786", func := "recto/rectolaw03.CharsKinds", spec := "charsKinds", inPlace := ["internal/bytealg.CountString", "internal/bytealg.IndexByteString", "internal/bytealg.IndexString", "internal/abi.NoEscape", "internal/bytealg.MakeNoZero"], named := ["internal/bytealg.MaxLen", "unicode/utf8.first", "unicode/utf8.acceptRanges", "recto/utf.rows"], apart := false, laid := [("unicode/utf8.acceptRanges", laid_unicode_utf8_acceptRanges), ("recto/utf.rows", laid_recto_utf_rows), ("unicode/utf8.first", laid_unicode_utf8_first)], narrowed := true }
def CharsKindsUptoSaid : Prop := charsKindsUptoRow.holds Tryd.pinned (OpenSpec.upto charsKindsSpec)

/-- 'rectolaw03.CharsTexts', WHERE WHAT IT READS IS OF BULK AT MOST 1048576: true; the input reads as it did. -/
def charsTextsUptoRow : OpenClaim := { program := "ytdoapeandigooaadoor", sum := "62579078a9e17aed92671180fee50052e5550a0654c8d0c5986680f67f80c786", func := "recto/rectolaw03.CharsTexts", spec := "charsTexts", inPlace := ["internal/bytealg.CountString", "internal/bytealg.IndexByteString", "internal/bytealg.IndexString", "internal/abi.NoEscape", "internal/bytealg.MakeNoZero"], named := ["internal/bytealg.MaxLen", "unicode/utf8.first", "unicode/utf8.acceptRanges", "recto/utf.rows"], apart := false, laid := [("unicode/utf8.acceptRanges", laid_unicode_utf8_acceptRanges), ("recto/utf.rows", laid_recto_utf_rows), ("unicode/utf8.first", laid_unicode_utf8_first)], narrowed := true }
def CharsTextsUptoSaid : Prop := charsTextsUptoRow.holds Tryd.pinned (OpenSpec.upto charsTextsSpec)

/-- 'rectolaw03.CharsWords', WHERE WHAT IT READS IS OF BULK AT MOST 1048576: true; the input reads as it did. -/
def charsWordsUptoRow : OpenClaim := { program := "ytdoapeandigooaadoor", sum := "62579078a9e17aed92671180fee50052e5550a0654c8d0c5986680f67f80c786", func := "recto/rectolaw03.CharsWords", spec := "charsWords", inPlace := ["internal/bytealg.CountString", "internal/bytealg.IndexByteString", "internal/bytealg.IndexString", "internal/abi.NoEscape", "internal/bytealg.MakeNoZero"], named := ["internal/bytealg.MaxLen", "unicode/utf8.first", "unicode/utf8.acceptRanges", "recto/utf.rows"], apart := false, laid := [("unicode/utf8.acceptRanges", laid_unicode_utf8_acceptRanges), ("recto/utf.rows", laid_recto_utf_rows), ("unicode/utf8.first", laid_unicode_utf8_first)], narrowed := true }
def CharsWordsUptoSaid : Prop := charsWordsUptoRow.holds Tryd.pinned (OpenSpec.upto charsWordsSpec)

/-- 'rectolaw03.CharsStays', WHERE WHAT IT READS IS OF BULK AT MOST 1048576: true; the input reads as it did. -/
def charsStaysUptoRow : OpenClaim := { program := "ytdoapeandigooaadoor", sum := "62579078a9e17aed92671180fee50052e5550a0654c8d0c5986680f67f80c786", func := "recto/rectolaw03.CharsStays", spec := "charsStays", inPlace := ["internal/bytealg.CountString", "internal/bytealg.IndexByteString", "internal/bytealg.IndexString", "internal/abi.NoEscape", "internal/bytealg.MakeNoZero"], named := ["internal/bytealg.MaxLen", "unicode/utf8.first", "unicode/utf8.acceptRanges", "recto/utf.rows"], apart := false, laid := [("unicode/utf8.acceptRanges", laid_unicode_utf8_acceptRanges), ("recto/utf.rows", laid_recto_utf_rows), ("unicode/utf8.first", laid_unicode_utf8_first)], narrowed := true }
def CharsStaysUptoSaid : Prop := charsStaysUptoRow.holds Tryd.pinned (OpenSpec.upto charsStaysSpec)

/-- 'rectolaw06.PenTags', WHERE WHAT IT READS IS OF BULK AT MOST 1048576: true; the input reads as it did. -/
def penTagsUptoRow : OpenClaim := { program := "ytdoapeandigooaadoor", sum := "62579078a9e17aed92671180fee50052e5550a0654c8d0c5986680f67f80c786", func := "recto/rectolaw06.PenTags", spec := "penTags", inPlace := ["internal/abi.NoEscape", "internal/bytealg.CountString", "internal/bytealg.IndexByteString", "internal/bytealg.IndexString", "internal/bytealg.MakeNoZero"], unfollowed := true, recurses := true, named := ["recto/utf.rows", "internal/bytealg.MaxLen", "unicode/utf8.first", "unicode/utf8.acceptRanges"], apart := false, laid := [("unicode/utf8.acceptRanges", laid_unicode_utf8_acceptRanges), ("recto/utf.rows", laid_recto_utf_rows), ("unicode/utf8.first", laid_unicode_utf8_first)], narrowed := true }
def PenTagsUptoSaid : Prop := penTagsUptoRow.holds Tryd.pinned (OpenSpec.upto penTagsSpec)

/-- 'rectolaw06.PenTexts', WHERE WHAT IT READS IS OF BULK AT MOST 1048576: true; the input reads as it did. -/
def penTextsUptoRow : OpenClaim := { program := "ytdoapeandigooaadoor", sum := "62579078a9e17aed92671180fee50052e5550a0654c8d0c5986680f67f80c786", func := "recto/rectolaw06.PenTexts", spec := "penTexts", inPlace := ["internal/abi.NoEscape", "internal/bytealg.CountString", "internal/bytealg.IndexByteString", "internal/bytealg.IndexString", "internal/bytealg.MakeNoZero"], unfollowed := true, recurses := true, named := ["recto/utf.rows", "internal/bytealg.MaxLen", "unicode/utf8.first", "unicode/utf8.acceptRanges"], apart := false, laid := [("unicode/utf8.acceptRanges", laid_unicode_utf8_acceptRanges), ("recto/utf.rows", laid_recto_utf_rows), ("unicode/utf8.first", laid_unicode_utf8_first)], narrowed := true }
def PenTextsUptoSaid : Prop := penTextsUptoRow.holds Tryd.pinned (OpenSpec.upto penTextsSpec)

end Rows
end Go.Proofs.YtdoapeandigooaaDoor
