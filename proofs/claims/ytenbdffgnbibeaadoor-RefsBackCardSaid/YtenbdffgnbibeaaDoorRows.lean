/-
  NARROWER THAN 'FOR EVERY INPUT', by the rows' own cells (each row's printed sentence says how): UtfBytes: laid · UtfFirsts: laid · UtfBack: laid · UtfStays: laid · UtfCleans: laid · RefsAt: laid · RefsAll: laid · RefsNames: laid · RefsPlain: laid · RefsEscapes: laid · RefsBack: laid.
  DERIVED. THE GIVEN ROWS OF THIS SEAT. 11 by the template 'for every input the law returns true; each argument reads behind the call as it read before'; 0 by the template 'total and deterministic' (their statements: YtenbdffgnbibeaaDoorTotals.lean).
  GIVEN WITH THE SEED: the statements are not yours to turn. If you find one false, say at which input.
  Laid BY PROGRAM, IN A SANDBOX (cutbox-rows.mjs): the forced cells as the released guide's own fill.sh prints them over the translation 6abbf5261d374145… (all of the seat's roots in one cut). By AI agents, Wed Nov 11 2026. No macro, syntax, notation, axiom, sorry.
-/
import Derived.Test.YtenbdffgnbibeaaDoorChecked
import GoSem.PinnedTables
import GoSem.Claim
import GoSem.ClaimJoined
import GoSem.ClaimMapViews
import Derived.JoinedTies
import Derived.KernelRfl
namespace Go.Proofs.YtenbdffgnbibeaaDoor
/- THE CELL 'sum', in the pinned program and in every row, IS THE sha256 OF THE DUMP (.gsa) THAT YtenbdffgnbibeaaDoorProg.lean LOADS. Nothing in Lean hashes anything: it is a label: what it is worth is what the hold of that sum in a sandbox is worth. -/
noncomputable def Tryd.pinned : Pinned := { name := "ytenbdffgnbibeaadoor", sum := "6abbf5261d374145e341dbf5253bcd2708b3c125d6003a6e152c3d25e4e560a3", checked := Tryd.checked }
namespace Rows
def none {H : Type} : Left H := { results := [], args := [] }

/- WHAT THE LISTED PACKAGE-LEVEL VARIABLES READ AS WHEN THE CALL BEGINS. Each datum BY PROGRAM (the guide's laid-datum.mjs) off the statement by which the dump's own 'gosem.cut.vars' lays the variable. In a bare row this is a premise. The card (YtenbdffgnbibeaaDoorCards.lean) ties it to the program's text. -/
def laid_recto_utf_rows {H : Type} : DataW H := .agg [.agg [.lit (.int .i64 0), .lit (.int .i64 0)], .agg [.lit (.int .i64 0), .lit (.int .i64 0)], .agg [.lit (.int .i64 192), .lit (.int .i64 128)], .agg [.lit (.int .i64 224), .lit (.int .i64 2048)], .agg [.lit (.int .i64 240), .lit (.int .i64 65536)]]
def laid_recto_refs_refs {H : Type} : DataW H := .agg [.agg [.lit (.string [97, 109, 112]), .lit (.int .i64 38), .lit (.bool true)], .agg [.lit (.string [108, 116]), .lit (.int .i64 60), .lit (.bool true)], .agg [.lit (.string [103, 116]), .lit (.int .i64 62), .lit (.bool true)], .agg [.lit (.string [113, 117, 111, 116]), .lit (.int .i64 34), .lit (.bool true)], .agg [.lit (.string [110, 98, 115, 112]), .lit (.int .i64 160), .lit (.bool true)], .agg [.lit (.string [99, 111, 112, 121]), .lit (.int .i64 169), .lit (.bool true)], .agg [.lit (.string [114, 101, 103]), .lit (.int .i64 174), .lit (.bool true)], .agg [.lit (.string [110, 111, 116]), .lit (.int .i64 172), .lit (.bool true)], .agg [.lit (.string [110, 111, 116, 105, 110]), .lit (.int .i64 8713), .lit (.bool false)], .agg [.lit (.string [116, 105, 109, 101, 115]), .lit (.int .i64 215), .lit (.bool true)], .agg [.lit (.string [112, 97, 114, 97]), .lit (.int .i64 182), .lit (.bool true)], .agg [.lit (.string [115, 101, 99, 116]), .lit (.int .i64 167), .lit (.bool true)], .agg [.lit (.string [101, 97, 99, 117, 116, 101]), .lit (.int .i64 233), .lit (.bool true)], .agg [.lit (.string [69, 97, 99, 117, 116, 101]), .lit (.int .i64 201), .lit (.bool true)], .agg [.lit (.string [97, 117, 109, 108]), .lit (.int .i64 228), .lit (.bool true)], .agg [.lit (.string [65, 117, 109, 108]), .lit (.int .i64 196), .lit (.bool true)], .agg [.lit (.string [115, 122, 108, 105, 103]), .lit (.int .i64 223), .lit (.bool true)], .agg [.lit (.string [101, 117, 114, 111]), .lit (.int .i64 8364), .lit (.bool false)], .agg [.lit (.string [104, 101, 108, 108, 105, 112]), .lit (.int .i64 8230), .lit (.bool false)], .agg [.lit (.string [109, 100, 97, 115, 104]), .lit (.int .i64 8212), .lit (.bool false)], .agg [.lit (.string [110, 100, 97, 115, 104]), .lit (.int .i64 8211), .lit (.bool false)], .agg [.lit (.string [97, 108, 112, 104, 97]), .lit (.int .i64 945), .lit (.bool false)], .agg [.lit (.string [98, 101, 116, 97]), .lit (.int .i64 946), .lit (.bool false)], .agg [.lit (.string [114, 97, 114, 114]), .lit (.int .i64 8594), .lit (.bool false)], .agg [.lit (.string [108, 97, 114, 114]), .lit (.int .i64 8592), .lit (.bool false)], .agg [.lit (.string [97, 112, 111, 115]), .lit (.int .i64 39), .lit (.bool false)], .agg [.lit (.string [121, 101, 110]), .lit (.int .i64 165), .lit (.bool true)], .agg [.lit (.string [109, 105, 99, 114, 111]), .lit (.int .i64 181), .lit (.bool true)]]
def laid_recto_refs_turns {H : Type} : DataW H := .agg [.agg [.lit (.int .i64 128), .lit (.int .i64 8364)], .agg [.lit (.int .i64 130), .lit (.int .i64 8218)], .agg [.lit (.int .i64 131), .lit (.int .i64 402)], .agg [.lit (.int .i64 132), .lit (.int .i64 8222)], .agg [.lit (.int .i64 133), .lit (.int .i64 8230)], .agg [.lit (.int .i64 134), .lit (.int .i64 8224)], .agg [.lit (.int .i64 135), .lit (.int .i64 8225)], .agg [.lit (.int .i64 136), .lit (.int .i64 710)], .agg [.lit (.int .i64 137), .lit (.int .i64 8240)], .agg [.lit (.int .i64 138), .lit (.int .i64 352)], .agg [.lit (.int .i64 139), .lit (.int .i64 8249)], .agg [.lit (.int .i64 140), .lit (.int .i64 338)], .agg [.lit (.int .i64 142), .lit (.int .i64 381)], .agg [.lit (.int .i64 145), .lit (.int .i64 8216)], .agg [.lit (.int .i64 146), .lit (.int .i64 8217)], .agg [.lit (.int .i64 147), .lit (.int .i64 8220)], .agg [.lit (.int .i64 148), .lit (.int .i64 8221)], .agg [.lit (.int .i64 149), .lit (.int .i64 8226)], .agg [.lit (.int .i64 150), .lit (.int .i64 8211)], .agg [.lit (.int .i64 151), .lit (.int .i64 8212)], .agg [.lit (.int .i64 152), .lit (.int .i64 732)], .agg [.lit (.int .i64 153), .lit (.int .i64 8482)], .agg [.lit (.int .i64 154), .lit (.int .i64 353)], .agg [.lit (.int .i64 155), .lit (.int .i64 8250)], .agg [.lit (.int .i64 156), .lit (.int .i64 339)], .agg [.lit (.int .i64 158), .lit (.int .i64 382)], .agg [.lit (.int .i64 159), .lit (.int .i64 376)]]
def laid_unicode_utf8_acceptRanges {H : Type} : DataW H := .agg [.agg [.lit (.int .u8 128), .lit (.int .u8 191)], .agg [.lit (.int .u8 160), .lit (.int .u8 191)], .agg [.lit (.int .u8 128), .lit (.int .u8 159)], .agg [.lit (.int .u8 144), .lit (.int .u8 191)], .agg [.lit (.int .u8 128), .lit (.int .u8 143)], .agg [.lit (.int .u8 0), .lit (.int .u8 0)], .agg [.lit (.int .u8 0), .lit (.int .u8 0)], .agg [.lit (.int .u8 0), .lit (.int .u8 0)], .agg [.lit (.int .u8 0), .lit (.int .u8 0)], .agg [.lit (.int .u8 0), .lit (.int .u8 0)], .agg [.lit (.int .u8 0), .lit (.int .u8 0)], .agg [.lit (.int .u8 0), .lit (.int .u8 0)], .agg [.lit (.int .u8 0), .lit (.int .u8 0)], .agg [.lit (.int .u8 0), .lit (.int .u8 0)], .agg [.lit (.int .u8 0), .lit (.int .u8 0)], .agg [.lit (.int .u8 0), .lit (.int .u8 0)]]
/-- One of Go's own tables, pinned by name: the form's constant. -/
def laid_unicode_utf8_first : DataW Unit := Go.Pinned.utf8First

/-- 'rectolaw02.UtfBytes': WHATEVER THE INPUT: true; the input reads as it did. -/
def utfBytesSpec : ChangeSpec := { name := "utfBytes", fn := fun _ => fun
  | [d] => { results := [.lit (.bool true)], args := [d] }
  | _ => none }
def utfBytesRow : OpenClaim := { program := "ytenbdffgnbibeaadoor", sum := "6abbf5261d374145e341dbf5253bcd2708b3c125d6003a6e152c3d25e4e560a3", func := "recto/rectolaw02.UtfBytes", spec := "utfBytes", recurses := true, named := ["recto/utf.rows"], apart := false, laid := [("recto/utf.rows", laid_recto_utf_rows)] }
def UtfBytesSaid : Prop := utfBytesRow.holds Tryd.pinned (OpenSpec.ofChange utfBytesSpec)

/-- ITS FALSE NEIGHBOUR: 'it returns false'. Refute it at one input. -/
def utfBytesWrong : ChangeSpec := { name := "utfBytes", fn := fun _ => fun
  | [d] => { results := [.lit (.bool false)], args := [d] }
  | _ => none }
def UtfBytesWrongFalsely : Prop := utfBytesRow.holds Tryd.pinned (OpenSpec.ofChange utfBytesWrong)

/-- 'rectolaw02.UtfFirsts': WHATEVER THE INPUT: true; the input reads as it did. -/
def utfFirstsSpec : ChangeSpec := { name := "utfFirsts", fn := fun _ => fun
  | [d] => { results := [.lit (.bool true)], args := [d] }
  | _ => none }
def utfFirstsRow : OpenClaim := { program := "ytenbdffgnbibeaadoor", sum := "6abbf5261d374145e341dbf5253bcd2708b3c125d6003a6e152c3d25e4e560a3", func := "recto/rectolaw02.UtfFirsts", spec := "utfFirsts", recurses := true, named := ["recto/utf.rows"], apart := false, laid := [("recto/utf.rows", laid_recto_utf_rows)] }
def UtfFirstsSaid : Prop := utfFirstsRow.holds Tryd.pinned (OpenSpec.ofChange utfFirstsSpec)

/-- ITS FALSE NEIGHBOUR: 'it returns false'. Refute it at one input. -/
def utfFirstsWrong : ChangeSpec := { name := "utfFirsts", fn := fun _ => fun
  | [d] => { results := [.lit (.bool false)], args := [d] }
  | _ => none }
def UtfFirstsWrongFalsely : Prop := utfFirstsRow.holds Tryd.pinned (OpenSpec.ofChange utfFirstsWrong)

/-- 'rectolaw02.UtfBack': WHATEVER THE INPUT: true; the input reads as it did. -/
def utfBackSpec : ChangeSpec := { name := "utfBack", fn := fun _ => fun
  | [d1, d2] => { results := [.lit (.bool true)], args := [d1, d2] }
  | _ => none }
def utfBackRow : OpenClaim := { program := "ytenbdffgnbibeaadoor", sum := "6abbf5261d374145e341dbf5253bcd2708b3c125d6003a6e152c3d25e4e560a3", func := "recto/rectolaw02.UtfBack", spec := "utfBack", named := ["recto/utf.rows"], apart := false, laid := [("recto/utf.rows", laid_recto_utf_rows)] }
def UtfBackSaid : Prop := utfBackRow.holds Tryd.pinned (OpenSpec.ofChange utfBackSpec)

/-- ITS FALSE NEIGHBOUR: 'it returns false'. Refute it at one input. -/
def utfBackWrong : ChangeSpec := { name := "utfBack", fn := fun _ => fun
  | [d1, d2] => { results := [.lit (.bool false)], args := [d1, d2] }
  | _ => none }
def UtfBackWrongFalsely : Prop := utfBackRow.holds Tryd.pinned (OpenSpec.ofChange utfBackWrong)

/-- 'rectolaw02.UtfStays': WHATEVER THE INPUT: true; the input reads as it did. -/
def utfStaysSpec : ChangeSpec := { name := "utfStays", fn := fun _ => fun
  | [d1, d2] => { results := [.lit (.bool true)], args := [d1, d2] }
  | _ => none }
def utfStaysRow : OpenClaim := { program := "ytenbdffgnbibeaadoor", sum := "6abbf5261d374145e341dbf5253bcd2708b3c125d6003a6e152c3d25e4e560a3", func := "recto/rectolaw02.UtfStays", spec := "utfStays", inPlace := ["internal/abi.NoEscape"], named := ["recto/utf.rows"], apart := false, laid := [("recto/utf.rows", laid_recto_utf_rows)] }
def UtfStaysSaid : Prop := utfStaysRow.holds Tryd.pinned (OpenSpec.ofChange utfStaysSpec)

/-- ITS FALSE NEIGHBOUR: 'it returns false'. Refute it at one input. -/
def utfStaysWrong : ChangeSpec := { name := "utfStays", fn := fun _ => fun
  | [d1, d2] => { results := [.lit (.bool false)], args := [d1, d2] }
  | _ => none }
def UtfStaysWrongFalsely : Prop := utfStaysRow.holds Tryd.pinned (OpenSpec.ofChange utfStaysWrong)

/-- 'rectolaw02.UtfCleans': WHATEVER THE INPUT: true; the input reads as it did. -/
def utfCleansSpec : ChangeSpec := { name := "utfCleans", fn := fun _ => fun
  | [d1, d2] => { results := [.lit (.bool true)], args := [d1, d2] }
  | _ => none }
def utfCleansRow : OpenClaim := { program := "ytenbdffgnbibeaadoor", sum := "6abbf5261d374145e341dbf5253bcd2708b3c125d6003a6e152c3d25e4e560a3", func := "recto/rectolaw02.UtfCleans", spec := "utfCleans", inPlace := ["internal/abi.NoEscape"], recurses := true, named := ["recto/utf.rows"], apart := false, laid := [("recto/utf.rows", laid_recto_utf_rows)] }
def UtfCleansSaid : Prop := utfCleansRow.holds Tryd.pinned (OpenSpec.ofChange utfCleansSpec)

/-- ITS FALSE NEIGHBOUR: 'it returns false'. Refute it at one input. -/
def utfCleansWrong : ChangeSpec := { name := "utfCleans", fn := fun _ => fun
  | [d1, d2] => { results := [.lit (.bool false)], args := [d1, d2] }
  | _ => none }
def UtfCleansWrongFalsely : Prop := utfCleansRow.holds Tryd.pinned (OpenSpec.ofChange utfCleansWrong)

/-- 'rectolaw04.RefsAt': WHATEVER THE INPUT: true; the input reads as it did. -/
def refsAtSpec : ChangeSpec := { name := "refsAt", fn := fun _ => fun
  | [d1, d2, d3] => { results := [.lit (.bool true)], args := [d1, d2, d3] }
  | _ => none }
def refsAtRow : OpenClaim := { program := "ytenbdffgnbibeaadoor", sum := "6abbf5261d374145e341dbf5253bcd2708b3c125d6003a6e152c3d25e4e560a3", func := "recto/rectolaw04.RefsAt", spec := "refsAt", inPlace := ["internal/abi.NoEscape"], recurses := true, named := ["recto/refs.refs", "recto/utf.rows", "recto/refs.turns"], apart := false, laid := [("recto/utf.rows", laid_recto_utf_rows), ("recto/refs.refs", laid_recto_refs_refs), ("recto/refs.turns", laid_recto_refs_turns)] }
def RefsAtSaid : Prop := refsAtRow.holds Tryd.pinned (OpenSpec.ofChange refsAtSpec)

/-- ITS FALSE NEIGHBOUR: 'it returns false'. Refute it at one input. -/
def refsAtWrong : ChangeSpec := { name := "refsAt", fn := fun _ => fun
  | [d1, d2, d3] => { results := [.lit (.bool false)], args := [d1, d2, d3] }
  | _ => none }
def RefsAtWrongFalsely : Prop := refsAtRow.holds Tryd.pinned (OpenSpec.ofChange refsAtWrong)

/-- 'rectolaw04.RefsAll': WHATEVER THE INPUT: true; the input reads as it did. -/
def refsAllSpec : ChangeSpec := { name := "refsAll", fn := fun _ => fun
  | [d1, d2] => { results := [.lit (.bool true)], args := [d1, d2] }
  | _ => none }
def refsAllRow : OpenClaim := { program := "ytenbdffgnbibeaadoor", sum := "6abbf5261d374145e341dbf5253bcd2708b3c125d6003a6e152c3d25e4e560a3", func := "recto/rectolaw04.RefsAll", spec := "refsAll", inPlace := ["internal/abi.NoEscape"], recurses := true, named := ["recto/refs.refs", "recto/utf.rows", "recto/refs.turns"], apart := false, laid := [("recto/utf.rows", laid_recto_utf_rows), ("recto/refs.refs", laid_recto_refs_refs), ("recto/refs.turns", laid_recto_refs_turns)] }
def RefsAllSaid : Prop := refsAllRow.holds Tryd.pinned (OpenSpec.ofChange refsAllSpec)

/-- ITS FALSE NEIGHBOUR: 'it returns false'. Refute it at one input. -/
def refsAllWrong : ChangeSpec := { name := "refsAll", fn := fun _ => fun
  | [d1, d2] => { results := [.lit (.bool false)], args := [d1, d2] }
  | _ => none }
def RefsAllWrongFalsely : Prop := refsAllRow.holds Tryd.pinned (OpenSpec.ofChange refsAllWrong)

/-- 'rectolaw04.RefsNames': WHATEVER THE INPUT: true; the input reads as it did. -/
def refsNamesSpec : ChangeSpec := { name := "refsNames", fn := fun _ => fun
  | [d1, d2] => { results := [.lit (.bool true)], args := [d1, d2] }
  | _ => none }
def refsNamesRow : OpenClaim := { program := "ytenbdffgnbibeaadoor", sum := "6abbf5261d374145e341dbf5253bcd2708b3c125d6003a6e152c3d25e4e560a3", func := "recto/rectolaw04.RefsNames", spec := "refsNames", inPlace := ["internal/abi.NoEscape"], named := ["recto/refs.refs", "recto/refs.turns", "recto/utf.rows"], apart := false, laid := [("recto/utf.rows", laid_recto_utf_rows), ("recto/refs.refs", laid_recto_refs_refs), ("recto/refs.turns", laid_recto_refs_turns)] }
def RefsNamesSaid : Prop := refsNamesRow.holds Tryd.pinned (OpenSpec.ofChange refsNamesSpec)

/-- ITS FALSE NEIGHBOUR: 'it returns false'. Refute it at one input. -/
def refsNamesWrong : ChangeSpec := { name := "refsNames", fn := fun _ => fun
  | [d1, d2] => { results := [.lit (.bool false)], args := [d1, d2] }
  | _ => none }
def RefsNamesWrongFalsely : Prop := refsNamesRow.holds Tryd.pinned (OpenSpec.ofChange refsNamesWrong)

/-- 'rectolaw04.RefsPlain': WHATEVER THE INPUT: true; the input reads as it did. -/
def refsPlainSpec : ChangeSpec := { name := "refsPlain", fn := fun _ => fun
  | [d1, d2, d3] => { results := [.lit (.bool true)], args := [d1, d2, d3] }
  | _ => none }
def refsPlainRow : OpenClaim := { program := "ytenbdffgnbibeaadoor", sum := "6abbf5261d374145e341dbf5253bcd2708b3c125d6003a6e152c3d25e4e560a3", func := "recto/rectolaw04.RefsPlain", spec := "refsPlain", inPlace := ["internal/abi.NoEscape"], named := ["recto/refs.refs", "recto/utf.rows", "recto/refs.turns"], apart := false, laid := [("recto/utf.rows", laid_recto_utf_rows), ("recto/refs.refs", laid_recto_refs_refs), ("recto/refs.turns", laid_recto_refs_turns)] }
def RefsPlainSaid : Prop := refsPlainRow.holds Tryd.pinned (OpenSpec.ofChange refsPlainSpec)

/-- ITS FALSE NEIGHBOUR: 'it returns false'. Refute it at one input. -/
def refsPlainWrong : ChangeSpec := { name := "refsPlain", fn := fun _ => fun
  | [d1, d2, d3] => { results := [.lit (.bool false)], args := [d1, d2, d3] }
  | _ => none }
def RefsPlainWrongFalsely : Prop := refsPlainRow.holds Tryd.pinned (OpenSpec.ofChange refsPlainWrong)

/-- 'rectolaw04.RefsEscapes': WHATEVER THE INPUT: true; the input reads as it did. -/
def refsEscapesSpec : ChangeSpec := { name := "refsEscapes", fn := fun _ => fun
  | [d1, d2] => { results := [.lit (.bool true)], args := [d1, d2] }
  | _ => none }
def refsEscapesRow : OpenClaim := { program := "ytenbdffgnbibeaadoor", sum := "6abbf5261d374145e341dbf5253bcd2708b3c125d6003a6e152c3d25e4e560a3", func := "recto/rectolaw04.RefsEscapes", spec := "refsEscapes", inPlace := ["internal/abi.NoEscape", "internal/bytealg.CountString", "internal/bytealg.IndexByteString", "internal/bytealg.IndexString", "internal/bytealg.MakeNoZero"], named := ["recto/refs.refs", "recto/utf.rows", "recto/refs.turns", "internal/bytealg.MaxLen", "unicode/utf8.first", "unicode/utf8.acceptRanges"], apart := false, laid := [("unicode/utf8.acceptRanges", laid_unicode_utf8_acceptRanges), ("recto/utf.rows", laid_recto_utf_rows), ("recto/refs.refs", laid_recto_refs_refs), ("recto/refs.turns", laid_recto_refs_turns), ("unicode/utf8.first", laid_unicode_utf8_first)] }
def RefsEscapesSaid : Prop := refsEscapesRow.holds Tryd.pinned (OpenSpec.ofChange refsEscapesSpec)

/-- ITS FALSE NEIGHBOUR: 'it returns false'. Refute it at one input. -/
def refsEscapesWrong : ChangeSpec := { name := "refsEscapes", fn := fun _ => fun
  | [d1, d2] => { results := [.lit (.bool false)], args := [d1, d2] }
  | _ => none }
def RefsEscapesWrongFalsely : Prop := refsEscapesRow.holds Tryd.pinned (OpenSpec.ofChange refsEscapesWrong)

/-- 'rectolaw04.RefsBack': WHATEVER THE INPUT: true; the input reads as it did. -/
def refsBackSpec : ChangeSpec := { name := "refsBack", fn := fun _ => fun
  | [d1, d2] => { results := [.lit (.bool true)], args := [d1, d2] }
  | _ => none }
def refsBackRow : OpenClaim := { program := "ytenbdffgnbibeaadoor", sum := "6abbf5261d374145e341dbf5253bcd2708b3c125d6003a6e152c3d25e4e560a3", func := "recto/rectolaw04.RefsBack", spec := "refsBack", inPlace := ["internal/abi.NoEscape", "internal/bytealg.CountString", "internal/bytealg.IndexByteString", "internal/bytealg.IndexString", "internal/bytealg.MakeNoZero"], named := ["recto/refs.refs", "recto/utf.rows", "recto/refs.turns", "internal/bytealg.MaxLen", "unicode/utf8.first", "unicode/utf8.acceptRanges"], apart := false, laid := [("unicode/utf8.acceptRanges", laid_unicode_utf8_acceptRanges), ("recto/utf.rows", laid_recto_utf_rows), ("recto/refs.refs", laid_recto_refs_refs), ("recto/refs.turns", laid_recto_refs_turns), ("unicode/utf8.first", laid_unicode_utf8_first)] }
def RefsBackSaid : Prop := refsBackRow.holds Tryd.pinned (OpenSpec.ofChange refsBackSpec)

/-- ITS FALSE NEIGHBOUR: 'it returns false'. Refute it at one input. -/
def refsBackWrong : ChangeSpec := { name := "refsBack", fn := fun _ => fun
  | [d1, d2] => { results := [.lit (.bool false)], args := [d1, d2] }
  | _ => none }
def RefsBackWrongFalsely : Prop := refsBackRow.holds Tryd.pinned (OpenSpec.ofChange refsBackWrong)

/- THE SECOND FORM. 'bulk': how many values and letters a reading holds, each counted each time it is reached (what is shared counts as often as it is met; a slice's spare places count too). A statement '..UptoSaid' is the law's where the arguments, and the package variables that the reading takes, are together of bulk at most 1048576: NARROWER than '..Said'. Prove '..Said' where nothing that the law and all that it calls make is longer than what came in: it says more and counts as full. Else prove '..UptoSaid'. A law counts once. -/
mutual
def uptoBulk {H : Type} : DataW H → Nat
  | .lit (.string bytes) => bytes.length + 1
  | .lit _ => 1
  | .nil => 1
  | .ptr d => uptoBulk d + 1
  | .slice elems spare => uptoBulkAll elems + uptoBulkAll spare + 1
  | .agg parts => uptoBulkAll parts + 1
  | .iface _ d => uptoBulk d + 1
  | .map entries => uptoBulkEntries entries + 1
  | .held _ => 1
def uptoBulkAll {H : Type} : List (DataW H) → Nat
  | [] => 0
  | d :: r => uptoBulk d + uptoBulkAll r
def uptoBulkEntries {H : Type} : List (Lit × DataW H) → Nat
  | [] => 0
  | x :: r => uptoBulkEntry x + uptoBulkEntries r
def uptoBulkEntry {H : Type} : Lit × DataW H → Nat
  | (.string bytes, d) => bytes.length + uptoBulk d + 1
  | (_, d) => uptoBulk d + 1
 end
def uptoSmall : (H : Type) → List (DataW H) → Bool := fun _ ds => decide (uptoBulkAll ds ≤ 1048576)
def OpenSpec.upto (s : _root_.Go.ChangeSpec) : _root_.Go.OpenSpec := { _root_.Go.OpenSpec.ofChange s with cond := some uptoSmall }

/-- 'rectolaw02.UtfBytes', WHERE WHAT IT READS IS OF BULK AT MOST 1048576: true; the input reads as it did. -/
def utfBytesUptoRow : OpenClaim := { program := "ytenbdffgnbibeaadoor", sum := "6abbf5261d374145e341dbf5253bcd2708b3c125d6003a6e152c3d25e4e560a3", func := "recto/rectolaw02.UtfBytes", spec := "utfBytes", recurses := true, named := ["recto/utf.rows"], apart := false, laid := [("recto/utf.rows", laid_recto_utf_rows)], narrowed := true }
def UtfBytesUptoSaid : Prop := utfBytesUptoRow.holds Tryd.pinned (OpenSpec.upto utfBytesSpec)

/-- 'rectolaw02.UtfFirsts', WHERE WHAT IT READS IS OF BULK AT MOST 1048576: true; the input reads as it did. -/
def utfFirstsUptoRow : OpenClaim := { program := "ytenbdffgnbibeaadoor", sum := "6abbf5261d374145e341dbf5253bcd2708b3c125d6003a6e152c3d25e4e560a3", func := "recto/rectolaw02.UtfFirsts", spec := "utfFirsts", recurses := true, named := ["recto/utf.rows"], apart := false, laid := [("recto/utf.rows", laid_recto_utf_rows)], narrowed := true }
def UtfFirstsUptoSaid : Prop := utfFirstsUptoRow.holds Tryd.pinned (OpenSpec.upto utfFirstsSpec)

/-- 'rectolaw02.UtfBack', WHERE WHAT IT READS IS OF BULK AT MOST 1048576: true; the input reads as it did. -/
def utfBackUptoRow : OpenClaim := { program := "ytenbdffgnbibeaadoor", sum := "6abbf5261d374145e341dbf5253bcd2708b3c125d6003a6e152c3d25e4e560a3", func := "recto/rectolaw02.UtfBack", spec := "utfBack", named := ["recto/utf.rows"], apart := false, laid := [("recto/utf.rows", laid_recto_utf_rows)], narrowed := true }
def UtfBackUptoSaid : Prop := utfBackUptoRow.holds Tryd.pinned (OpenSpec.upto utfBackSpec)

/-- 'rectolaw02.UtfStays', WHERE WHAT IT READS IS OF BULK AT MOST 1048576: true; the input reads as it did. -/
def utfStaysUptoRow : OpenClaim := { program := "ytenbdffgnbibeaadoor", sum := "6abbf5261d374145e341dbf5253bcd2708b3c125d6003a6e152c3d25e4e560a3", func := "recto/rectolaw02.UtfStays", spec := "utfStays", inPlace := ["internal/abi.NoEscape"], named := ["recto/utf.rows"], apart := false, laid := [("recto/utf.rows", laid_recto_utf_rows)], narrowed := true }
def UtfStaysUptoSaid : Prop := utfStaysUptoRow.holds Tryd.pinned (OpenSpec.upto utfStaysSpec)

/-- 'rectolaw02.UtfCleans', WHERE WHAT IT READS IS OF BULK AT MOST 1048576: true; the input reads as it did. -/
def utfCleansUptoRow : OpenClaim := { program := "ytenbdffgnbibeaadoor", sum := "6abbf5261d374145e341dbf5253bcd2708b3c125d6003a6e152c3d25e4e560a3", func := "recto/rectolaw02.UtfCleans", spec := "utfCleans", inPlace := ["internal/abi.NoEscape"], recurses := true, named := ["recto/utf.rows"], apart := false, laid := [("recto/utf.rows", laid_recto_utf_rows)], narrowed := true }
def UtfCleansUptoSaid : Prop := utfCleansUptoRow.holds Tryd.pinned (OpenSpec.upto utfCleansSpec)

/-- 'rectolaw04.RefsAt', WHERE WHAT IT READS IS OF BULK AT MOST 1048576: true; the input reads as it did. -/
def refsAtUptoRow : OpenClaim := { program := "ytenbdffgnbibeaadoor", sum := "6abbf5261d374145e341dbf5253bcd2708b3c125d6003a6e152c3d25e4e560a3", func := "recto/rectolaw04.RefsAt", spec := "refsAt", inPlace := ["internal/abi.NoEscape"], recurses := true, named := ["recto/refs.refs", "recto/utf.rows", "recto/refs.turns"], apart := false, laid := [("recto/utf.rows", laid_recto_utf_rows), ("recto/refs.refs", laid_recto_refs_refs), ("recto/refs.turns", laid_recto_refs_turns)], narrowed := true }
def RefsAtUptoSaid : Prop := refsAtUptoRow.holds Tryd.pinned (OpenSpec.upto refsAtSpec)

/-- 'rectolaw04.RefsAll', WHERE WHAT IT READS IS OF BULK AT MOST 1048576: true; the input reads as it did. -/
def refsAllUptoRow : OpenClaim := { program := "ytenbdffgnbibeaadoor", sum := "6abbf5261d374145e341dbf5253bcd2708b3c125d6003a6e152c3d25e4e560a3", func := "recto/rectolaw04.RefsAll", spec := "refsAll", inPlace := ["internal/abi.NoEscape"], recurses := true, named := ["recto/refs.refs", "recto/utf.rows", "recto/refs.turns"], apart := false, laid := [("recto/utf.rows", laid_recto_utf_rows), ("recto/refs.refs", laid_recto_refs_refs), ("recto/refs.turns", laid_recto_refs_turns)], narrowed := true }
def RefsAllUptoSaid : Prop := refsAllUptoRow.holds Tryd.pinned (OpenSpec.upto refsAllSpec)

/-- 'rectolaw04.RefsNames', WHERE WHAT IT READS IS OF BULK AT MOST 1048576: true; the input reads as it did. -/
def refsNamesUptoRow : OpenClaim := { program := "ytenbdffgnbibeaadoor", sum := "6abbf5261d374145e341dbf5253bcd2708b3c125d6003a6e152c3d25e4e560a3", func := "recto/rectolaw04.RefsNames", spec := "refsNames", inPlace := ["internal/abi.NoEscape"], named := ["recto/refs.refs", "recto/refs.turns", "recto/utf.rows"], apart := false, laid := [("recto/utf.rows", laid_recto_utf_rows), ("recto/refs.refs", laid_recto_refs_refs), ("recto/refs.turns", laid_recto_refs_turns)], narrowed := true }
def RefsNamesUptoSaid : Prop := refsNamesUptoRow.holds Tryd.pinned (OpenSpec.upto refsNamesSpec)

/-- 'rectolaw04.RefsPlain', WHERE WHAT IT READS IS OF BULK AT MOST 1048576: true; the input reads as it did. -/
def refsPlainUptoRow : OpenClaim := { program := "ytenbdffgnbibeaadoor", sum := "6abbf5261d374145e341dbf5253bcd2708b3c125d6003a6e152c3d25e4e560a3", func := "recto/rectolaw04.RefsPlain", spec := "refsPlain", inPlace := ["internal/abi.NoEscape"], named := ["recto/refs.refs", "recto/utf.rows", "recto/refs.turns"], apart := false, laid := [("recto/utf.rows", laid_recto_utf_rows), ("recto/refs.refs", laid_recto_refs_refs), ("recto/refs.turns", laid_recto_refs_turns)], narrowed := true }
def RefsPlainUptoSaid : Prop := refsPlainUptoRow.holds Tryd.pinned (OpenSpec.upto refsPlainSpec)

/-- 'rectolaw04.RefsEscapes', WHERE WHAT IT READS IS OF BULK AT MOST 1048576: true; the input reads as it did. -/
def refsEscapesUptoRow : OpenClaim := { program := "ytenbdffgnbibeaadoor", sum := "6abbf5261d374145e341dbf5253bcd2708b3c125d6003a6e152c3d25e4e560a3", func := "recto/rectolaw04.RefsEscapes", spec := "refsEscapes", inPlace := ["internal/abi.NoEscape", "internal/bytealg.CountString", "internal/bytealg.IndexByteString", "internal/bytealg.IndexString", "internal/bytealg.MakeNoZero"], named := ["recto/refs.refs", "recto/utf.rows", "recto/refs.turns", "internal/bytealg.MaxLen", "unicode/utf8.first", "unicode/utf8.acceptRanges"], apart := false, laid := [("unicode/utf8.acceptRanges", laid_unicode_utf8_acceptRanges), ("recto/utf.rows", laid_recto_utf_rows), ("recto/refs.refs", laid_recto_refs_refs), ("recto/refs.turns", laid_recto_refs_turns), ("unicode/utf8.first", laid_unicode_utf8_first)], narrowed := true }
def RefsEscapesUptoSaid : Prop := refsEscapesUptoRow.holds Tryd.pinned (OpenSpec.upto refsEscapesSpec)

/-- 'rectolaw04.RefsBack', WHERE WHAT IT READS IS OF BULK AT MOST 1048576: true; the input reads as it did. -/
def refsBackUptoRow : OpenClaim := { program := "ytenbdffgnbibeaadoor", sum := "6abbf5261d374145e341dbf5253bcd2708b3c125d6003a6e152c3d25e4e560a3", func := "recto/rectolaw04.RefsBack", spec := "refsBack", inPlace := ["internal/abi.NoEscape", "internal/bytealg.CountString", "internal/bytealg.IndexByteString", "internal/bytealg.IndexString", "internal/bytealg.MakeNoZero"], named := ["recto/refs.refs", "recto/utf.rows", "recto/refs.turns", "internal/bytealg.MaxLen", "unicode/utf8.first", "unicode/utf8.acceptRanges"], apart := false, laid := [("unicode/utf8.acceptRanges", laid_unicode_utf8_acceptRanges), ("recto/utf.rows", laid_recto_utf_rows), ("recto/refs.refs", laid_recto_refs_refs), ("recto/refs.turns", laid_recto_refs_turns), ("unicode/utf8.first", laid_unicode_utf8_first)], narrowed := true }
def RefsBackUptoSaid : Prop := refsBackUptoRow.holds Tryd.pinned (OpenSpec.upto refsBackSpec)

end Rows
end Go.Proofs.YtenbdffgnbibeaaDoor
