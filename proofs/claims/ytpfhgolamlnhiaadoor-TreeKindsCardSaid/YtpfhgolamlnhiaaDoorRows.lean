/-
  NARROWER THAN 'FOR EVERY INPUT', by the rows' own cells (each row's printed sentence says how): SerialEscapes: laid · SerialSafe: laid · SerialJoins: laid · SerialBack: laid · TreeKinds: laid · TreeWraps: laid.
  DERIVED. THE GIVEN ROWS OF THIS SEAT. 6 by the template 'for every input the law returns true; each argument reads behind the call as it read before'; 0 by the template 'total and deterministic' (their statements: YtpfhgolamlnhiaaDoorTotals.lean).
  GIVEN WITH THE SEED: the statements are not yours to turn. If you find one false, say at which input.
  Laid BY PROGRAM, IN A SANDBOX (cutbox-rows.mjs): the forced cells as the released guide's own fill.sh prints them over the translation 93d43f140c918a05… (all of the seat's roots in one cut). By AI agents, Wed Nov 11 2026. No macro, syntax, notation, axiom, sorry.
-/
import Derived.Test.YtpfhgolamlnhiaaDoorChecked
import GoSem.PinnedTables
import GoSem.Claim
import GoSem.ClaimJoined
import GoSem.ClaimMapViews
import Derived.JoinedTies
import Derived.KernelRfl
namespace Go.Proofs.YtpfhgolamlnhiaaDoor
/- THE CELL 'sum', in the pinned program and in every row, IS THE sha256 OF THE DUMP (.gsa) THAT YtpfhgolamlnhiaaDoorProg.lean LOADS. Nothing in Lean hashes anything: it is a label: what it is worth is what the hold of that sum in a sandbox is worth. -/
noncomputable def Tryd.pinned : Pinned := { name := "ytpfhgolamlnhiaadoor", sum := "93d43f140c918a052dafb82489064ca13da10c06a54fa8debadf905168e1f7e1", checked := Tryd.checked }
namespace Rows
def none {H : Type} : Left H := { results := [], args := [] }

/- WHAT THE LISTED PACKAGE-LEVEL VARIABLES READ AS WHEN THE CALL BEGINS. Each datum BY PROGRAM (the guide's laid-datum.mjs) off the statement by which the dump's own 'gosem.cut.vars' lays the variable. In a bare row this is a premise. The card (YtpfhgolamlnhiaaDoorCards.lean) ties it to the program's text. -/
def laid_unicode_utf8_acceptRanges {H : Type} : DataW H := .agg [.agg [.lit (.int .u8 128), .lit (.int .u8 191)], .agg [.lit (.int .u8 160), .lit (.int .u8 191)], .agg [.lit (.int .u8 128), .lit (.int .u8 159)], .agg [.lit (.int .u8 144), .lit (.int .u8 191)], .agg [.lit (.int .u8 128), .lit (.int .u8 143)], .agg [.lit (.int .u8 0), .lit (.int .u8 0)], .agg [.lit (.int .u8 0), .lit (.int .u8 0)], .agg [.lit (.int .u8 0), .lit (.int .u8 0)], .agg [.lit (.int .u8 0), .lit (.int .u8 0)], .agg [.lit (.int .u8 0), .lit (.int .u8 0)], .agg [.lit (.int .u8 0), .lit (.int .u8 0)], .agg [.lit (.int .u8 0), .lit (.int .u8 0)], .agg [.lit (.int .u8 0), .lit (.int .u8 0)], .agg [.lit (.int .u8 0), .lit (.int .u8 0)], .agg [.lit (.int .u8 0), .lit (.int .u8 0)], .agg [.lit (.int .u8 0), .lit (.int .u8 0)]]
/-- One of Go's own tables, pinned by name: the form's constant. -/
def laid_unicode_utf8_first : DataW Unit := Go.Pinned.utf8First
def laid_selvedge_charref_names {H : Type} : DataW H := .agg [.agg [.lit (.string [65, 77, 80]), .lit (.int .i32 38), .lit (.bool true)], .agg [.lit (.string [67, 79, 80, 89]), .lit (.int .i32 169), .lit (.bool true)], .agg [.lit (.string [71, 84]), .lit (.int .i32 62), .lit (.bool true)], .agg [.lit (.string [76, 84]), .lit (.int .i32 60), .lit (.bool true)], .agg [.lit (.string [81, 85, 79, 84]), .lit (.int .i32 34), .lit (.bool true)], .agg [.lit (.string [82, 69, 71]), .lit (.int .i32 174), .lit (.bool true)], .agg [.lit (.string [97, 109, 112]), .lit (.int .i32 38), .lit (.bool true)], .agg [.lit (.string [97, 112, 111, 115]), .lit (.int .i32 39), .lit (.bool false)], .agg [.lit (.string [98, 117, 108, 108]), .lit (.int .i32 8226), .lit (.bool false)], .agg [.lit (.string [99, 101, 110, 116]), .lit (.int .i32 162), .lit (.bool true)], .agg [.lit (.string [99, 111, 112, 121]), .lit (.int .i32 169), .lit (.bool true)], .agg [.lit (.string [100, 97, 114, 114]), .lit (.int .i32 8595), .lit (.bool false)], .agg [.lit (.string [100, 101, 103]), .lit (.int .i32 176), .lit (.bool true)], .agg [.lit (.string [100, 105, 118, 105, 100, 101]), .lit (.int .i32 247), .lit (.bool true)], .agg [.lit (.string [101, 109, 115, 112]), .lit (.int .i32 8195), .lit (.bool false)], .agg [.lit (.string [101, 110, 115, 112]), .lit (.int .i32 8194), .lit (.bool false)], .agg [.lit (.string [101, 117, 114, 111]), .lit (.int .i32 8364), .lit (.bool false)], .agg [.lit (.string [103, 101]), .lit (.int .i32 8805), .lit (.bool false)], .agg [.lit (.string [103, 116]), .lit (.int .i32 62), .lit (.bool true)], .agg [.lit (.string [104, 101, 108, 108, 105, 112]), .lit (.int .i32 8230), .lit (.bool false)], .agg [.lit (.string [105, 110]), .lit (.int .i32 8712), .lit (.bool false)], .agg [.lit (.string [105, 110, 102, 105, 110]), .lit (.int .i32 8734), .lit (.bool false)], .agg [.lit (.string [108, 97, 110, 103]), .lit (.int .i32 10216), .lit (.bool false)], .agg [.lit (.string [108, 97, 113, 117, 111]), .lit (.int .i32 171), .lit (.bool true)], .agg [.lit (.string [108, 97, 114, 114]), .lit (.int .i32 8592), .lit (.bool false)], .agg [.lit (.string [108, 100, 113, 117, 111]), .lit (.int .i32 8220), .lit (.bool false)], .agg [.lit (.string [108, 101]), .lit (.int .i32 8804), .lit (.bool false)], .agg [.lit (.string [108, 114, 109]), .lit (.int .i32 8206), .lit (.bool false)], .agg [.lit (.string [108, 115, 97, 113, 117, 111]), .lit (.int .i32 8249), .lit (.bool false)], .agg [.lit (.string [108, 115, 113, 117, 111]), .lit (.int .i32 8216), .lit (.bool false)], .agg [.lit (.string [108, 116]), .lit (.int .i32 60), .lit (.bool true)], .agg [.lit (.string [109, 100, 97, 115, 104]), .lit (.int .i32 8212), .lit (.bool false)], .agg [.lit (.string [109, 105, 100, 100, 111, 116]), .lit (.int .i32 183), .lit (.bool true)], .agg [.lit (.string [109, 105, 110, 117, 115]), .lit (.int .i32 8722), .lit (.bool false)], .agg [.lit (.string [110, 98, 115, 112]), .lit (.int .i32 160), .lit (.bool true)], .agg [.lit (.string [110, 100, 97, 115, 104]), .lit (.int .i32 8211), .lit (.bool false)], .agg [.lit (.string [110, 101]), .lit (.int .i32 8800), .lit (.bool false)], .agg [.lit (.string [110, 111, 116]), .lit (.int .i32 172), .lit (.bool true)], .agg [.lit (.string [110, 111, 116, 105, 110]), .lit (.int .i32 8713), .lit (.bool false)], .agg [.lit (.string [112, 97, 114, 97]), .lit (.int .i32 182), .lit (.bool true)], .agg [.lit (.string [112, 108, 117, 115, 109, 110]), .lit (.int .i32 177), .lit (.bool true)], .agg [.lit (.string [112, 111, 117, 110, 100]), .lit (.int .i32 163), .lit (.bool true)], .agg [.lit (.string [113, 117, 111, 116]), .lit (.int .i32 34), .lit (.bool true)], .agg [.lit (.string [114, 97, 110, 103]), .lit (.int .i32 10217), .lit (.bool false)], .agg [.lit (.string [114, 97, 113, 117, 111]), .lit (.int .i32 187), .lit (.bool true)], .agg [.lit (.string [114, 97, 114, 114]), .lit (.int .i32 8594), .lit (.bool false)], .agg [.lit (.string [114, 100, 113, 117, 111]), .lit (.int .i32 8221), .lit (.bool false)], .agg [.lit (.string [114, 101, 103]), .lit (.int .i32 174), .lit (.bool true)], .agg [.lit (.string [114, 108, 109]), .lit (.int .i32 8207), .lit (.bool false)], .agg [.lit (.string [114, 115, 97, 113, 117, 111]), .lit (.int .i32 8250), .lit (.bool false)], .agg [.lit (.string [114, 115, 113, 117, 111]), .lit (.int .i32 8217), .lit (.bool false)], .agg [.lit (.string [115, 101, 99, 116]), .lit (.int .i32 167), .lit (.bool true)], .agg [.lit (.string [115, 104, 121]), .lit (.int .i32 173), .lit (.bool true)], .agg [.lit (.string [116, 104, 105, 110, 115, 112]), .lit (.int .i32 8201), .lit (.bool false)], .agg [.lit (.string [116, 105, 109, 101, 115]), .lit (.int .i32 215), .lit (.bool true)], .agg [.lit (.string [117, 97, 114, 114]), .lit (.int .i32 8593), .lit (.bool false)], .agg [.lit (.string [121, 101, 110]), .lit (.int .i32 165), .lit (.bool true)], .agg [.lit (.string [122, 119, 106]), .lit (.int .i32 8205), .lit (.bool false)], .agg [.lit (.string [122, 119, 110, 106]), .lit (.int .i32 8204), .lit (.bool false)]]
def laid_selvedge_charref_others {H : Type} : DataW H := .agg [.lit (.int .i32 8364), .lit (.int .i32 0), .lit (.int .i32 8218), .lit (.int .i32 402), .lit (.int .i32 8222), .lit (.int .i32 8230), .lit (.int .i32 8224), .lit (.int .i32 8225), .lit (.int .i32 710), .lit (.int .i32 8240), .lit (.int .i32 352), .lit (.int .i32 8249), .lit (.int .i32 338), .lit (.int .i32 0), .lit (.int .i32 381), .lit (.int .i32 0), .lit (.int .i32 0), .lit (.int .i32 8216), .lit (.int .i32 8217), .lit (.int .i32 8220), .lit (.int .i32 8221), .lit (.int .i32 8226), .lit (.int .i32 8211), .lit (.int .i32 8212), .lit (.int .i32 732), .lit (.int .i32 8482), .lit (.int .i32 353), .lit (.int .i32 8250), .lit (.int .i32 339), .lit (.int .i32 0), .lit (.int .i32 382), .lit (.int .i32 376)]

/-- 'selvedgelaw06.SerialEscapes': WHATEVER THE INPUT: true; the input reads as it did. -/
def serialEscapesSpec : ChangeSpec := { name := "serialEscapes", fn := fun _ => fun
  | [d] => { results := [.lit (.bool true)], args := [d] }
  | _ => none }
def serialEscapesRow : OpenClaim := { program := "ytpfhgolamlnhiaadoor", sum := "93d43f140c918a052dafb82489064ca13da10c06a54fa8debadf905168e1f7e1", func := "selvedge/selvedgelaw06.SerialEscapes", spec := "serialEscapes", inPlace := ["internal/abi.NoEscape", "internal/bytealg.IndexByteString"], unfollowed := true, recurses := true, named := ["unicode/utf8.first", "unicode/utf8.acceptRanges"], apart := false, laid := [("unicode/utf8.acceptRanges", laid_unicode_utf8_acceptRanges), ("unicode/utf8.first", laid_unicode_utf8_first)] }
def SerialEscapesSaid : Prop := serialEscapesRow.holds Tryd.pinned (OpenSpec.ofChange serialEscapesSpec)

/-- ITS FALSE NEIGHBOUR: 'it returns false'. Refute it at one input. -/
def serialEscapesWrong : ChangeSpec := { name := "serialEscapes", fn := fun _ => fun
  | [d] => { results := [.lit (.bool false)], args := [d] }
  | _ => none }
def SerialEscapesWrongFalsely : Prop := serialEscapesRow.holds Tryd.pinned (OpenSpec.ofChange serialEscapesWrong)

/-- 'selvedgelaw06.SerialSafe': WHATEVER THE INPUT: true; the input reads as it did. -/
def serialSafeSpec : ChangeSpec := { name := "serialSafe", fn := fun _ => fun
  | [d] => { results := [.lit (.bool true)], args := [d] }
  | _ => none }
def serialSafeRow : OpenClaim := { program := "ytpfhgolamlnhiaadoor", sum := "93d43f140c918a052dafb82489064ca13da10c06a54fa8debadf905168e1f7e1", func := "selvedge/selvedgelaw06.SerialSafe", spec := "serialSafe", inPlace := ["internal/bytealg.IndexByteString", "internal/abi.NoEscape"], unfollowed := true, recurses := true, named := ["unicode/utf8.first", "unicode/utf8.acceptRanges"], apart := false, laid := [("unicode/utf8.acceptRanges", laid_unicode_utf8_acceptRanges), ("unicode/utf8.first", laid_unicode_utf8_first)] }
def SerialSafeSaid : Prop := serialSafeRow.holds Tryd.pinned (OpenSpec.ofChange serialSafeSpec)

/-- ITS FALSE NEIGHBOUR: 'it returns false'. Refute it at one input. -/
def serialSafeWrong : ChangeSpec := { name := "serialSafe", fn := fun _ => fun
  | [d] => { results := [.lit (.bool false)], args := [d] }
  | _ => none }
def SerialSafeWrongFalsely : Prop := serialSafeRow.holds Tryd.pinned (OpenSpec.ofChange serialSafeWrong)

/-- 'selvedgelaw06.SerialJoins': WHATEVER THE INPUT: true; the input reads as it did. -/
def serialJoinsSpec : ChangeSpec := { name := "serialJoins", fn := fun _ => fun
  | [d1, d2] => { results := [.lit (.bool true)], args := [d1, d2] }
  | _ => none }
def serialJoinsRow : OpenClaim := { program := "ytpfhgolamlnhiaadoor", sum := "93d43f140c918a052dafb82489064ca13da10c06a54fa8debadf905168e1f7e1", func := "selvedge/selvedgelaw06.SerialJoins", spec := "serialJoins", inPlace := ["internal/bytealg.IndexByteString", "internal/abi.NoEscape"], unfollowed := true, recurses := true, named := ["unicode/utf8.first", "unicode/utf8.acceptRanges"], apart := false, laid := [("unicode/utf8.acceptRanges", laid_unicode_utf8_acceptRanges), ("unicode/utf8.first", laid_unicode_utf8_first)] }
def SerialJoinsSaid : Prop := serialJoinsRow.holds Tryd.pinned (OpenSpec.ofChange serialJoinsSpec)

/-- ITS FALSE NEIGHBOUR: 'it returns false'. Refute it at one input. -/
def serialJoinsWrong : ChangeSpec := { name := "serialJoins", fn := fun _ => fun
  | [d1, d2] => { results := [.lit (.bool false)], args := [d1, d2] }
  | _ => none }
def SerialJoinsWrongFalsely : Prop := serialJoinsRow.holds Tryd.pinned (OpenSpec.ofChange serialJoinsWrong)

/-- 'selvedgelaw06.SerialBack': WHATEVER THE INPUT: true; the input reads as it did. -/
def serialBackSpec : ChangeSpec := { name := "serialBack", fn := fun _ => fun
  | [d] => { results := [.lit (.bool true)], args := [d] }
  | _ => none }
def serialBackRow : OpenClaim := { program := "ytpfhgolamlnhiaadoor", sum := "93d43f140c918a052dafb82489064ca13da10c06a54fa8debadf905168e1f7e1", func := "selvedge/selvedgelaw06.SerialBack", spec := "serialBack", inPlace := ["internal/bytealg.IndexByteString", "internal/abi.NoEscape", "internal/bytealg.abigen_runtime_cmpstring"], unfollowed := true, recurses := true, named := ["unicode/utf8.first", "unicode/utf8.acceptRanges", "selvedge/charref.names", "selvedge/charref.others"], apart := false, laid := [("unicode/utf8.acceptRanges", laid_unicode_utf8_acceptRanges), ("selvedge/charref.names", laid_selvedge_charref_names), ("selvedge/charref.others", laid_selvedge_charref_others), ("unicode/utf8.first", laid_unicode_utf8_first)] }
def SerialBackSaid : Prop := serialBackRow.holds Tryd.pinned (OpenSpec.ofChange serialBackSpec)

/-- ITS FALSE NEIGHBOUR: 'it returns false'. Refute it at one input. -/
def serialBackWrong : ChangeSpec := { name := "serialBack", fn := fun _ => fun
  | [d] => { results := [.lit (.bool false)], args := [d] }
  | _ => none }
def SerialBackWrongFalsely : Prop := serialBackRow.holds Tryd.pinned (OpenSpec.ofChange serialBackWrong)

/-- 'selvedgelaw05.TreeKinds': WHATEVER THE INPUT: true; the input reads as it did. -/
def treeKindsSpec : ChangeSpec := { name := "treeKinds", fn := fun _ => fun
  | [d] => { results := [.lit (.bool true)], args := [d] }
  | _ => none }
def treeKindsRow : OpenClaim := { program := "ytpfhgolamlnhiaadoor", sum := "93d43f140c918a052dafb82489064ca13da10c06a54fa8debadf905168e1f7e1", func := "selvedge/selvedgelaw05.TreeKinds", spec := "treeKinds", inPlace := ["internal/abi.NoEscape", "internal/bytealg.IndexByteString", "internal/bytealg.abigen_runtime_cmpstring", "internal/bytealg.IndexString"], unfollowed := true, recurses := true, named := ["selvedge/charref.names", "selvedge/charref.others", "unicode/utf8.first", "unicode/utf8.acceptRanges", "internal/bytealg.MaxLen"], apart := false, laid := [("unicode/utf8.acceptRanges", laid_unicode_utf8_acceptRanges), ("selvedge/charref.names", laid_selvedge_charref_names), ("selvedge/charref.others", laid_selvedge_charref_others), ("unicode/utf8.first", laid_unicode_utf8_first)] }
def TreeKindsSaid : Prop := treeKindsRow.holds Tryd.pinned (OpenSpec.ofChange treeKindsSpec)

/-- ITS FALSE NEIGHBOUR: 'it returns false'. Refute it at one input. -/
def treeKindsWrong : ChangeSpec := { name := "treeKinds", fn := fun _ => fun
  | [d] => { results := [.lit (.bool false)], args := [d] }
  | _ => none }
def TreeKindsWrongFalsely : Prop := treeKindsRow.holds Tryd.pinned (OpenSpec.ofChange treeKindsWrong)

/-- 'selvedgelaw05.TreeWraps': WHATEVER THE INPUT: true; the input reads as it did. -/
def treeWrapsSpec : ChangeSpec := { name := "treeWraps", fn := fun _ => fun
  | [d] => { results := [.lit (.bool true)], args := [d] }
  | _ => none }
def treeWrapsRow : OpenClaim := { program := "ytpfhgolamlnhiaadoor", sum := "93d43f140c918a052dafb82489064ca13da10c06a54fa8debadf905168e1f7e1", func := "selvedge/selvedgelaw05.TreeWraps", spec := "treeWraps", inPlace := ["internal/abi.NoEscape", "internal/bytealg.IndexByteString", "internal/bytealg.abigen_runtime_cmpstring", "internal/bytealg.IndexString"], unfollowed := true, recurses := true, named := ["selvedge/charref.names", "selvedge/charref.others", "unicode/utf8.first", "unicode/utf8.acceptRanges", "internal/bytealg.MaxLen"], apart := false, laid := [("unicode/utf8.acceptRanges", laid_unicode_utf8_acceptRanges), ("selvedge/charref.names", laid_selvedge_charref_names), ("selvedge/charref.others", laid_selvedge_charref_others), ("unicode/utf8.first", laid_unicode_utf8_first)] }
def TreeWrapsSaid : Prop := treeWrapsRow.holds Tryd.pinned (OpenSpec.ofChange treeWrapsSpec)

/-- ITS FALSE NEIGHBOUR: 'it returns false'. Refute it at one input. -/
def treeWrapsWrong : ChangeSpec := { name := "treeWraps", fn := fun _ => fun
  | [d] => { results := [.lit (.bool false)], args := [d] }
  | _ => none }
def TreeWrapsWrongFalsely : Prop := treeWrapsRow.holds Tryd.pinned (OpenSpec.ofChange treeWrapsWrong)

/- THE SECOND FORM. 'bulk': how many values and letters a reading holds, each counted each time it is reached (what is shared counts as often as it is met; a slice's spare places count too). A statement '..UptoSaid' is the law's where the arguments, and the package variables that the reading takes, are together of bulk at most 1048576: NARROWER than '..Said'. Prove '..Said' where nothing that the law and all that it calls make is longer than what came in: it says more and counts as full. Else prove '..UptoSaid'. A law counts once. -/
mutual
def uptoBulk {H : Type} : DataW H → Nat
  | .lit (.string bytes) => bytes.length + 1
  | .lit _ => 1
  | .nil => 1
  | .ptr d => uptoBulk d + 1
  | .slice elems spare => uptoBulkAll elems + uptoBulkAll spare + 1
  | .agg parts => uptoBulkAll parts + 1
  | .iface _ d => uptoBulk d + 1
  | .map entries => uptoBulkEntries entries + 1
  | .held _ => 1
def uptoBulkAll {H : Type} : List (DataW H) → Nat
  | [] => 0
  | d :: r => uptoBulk d + uptoBulkAll r
def uptoBulkEntries {H : Type} : List (Lit × DataW H) → Nat
  | [] => 0
  | x :: r => uptoBulkEntry x + uptoBulkEntries r
def uptoBulkEntry {H : Type} : Lit × DataW H → Nat
  | (.string bytes, d) => bytes.length + uptoBulk d + 1
  | (_, d) => uptoBulk d + 1
 end
def uptoSmall : (H : Type) → List (DataW H) → Bool := fun _ ds => decide (uptoBulkAll ds ≤ 1048576)
def OpenSpec.upto (s : _root_.Go.ChangeSpec) : _root_.Go.OpenSpec := { _root_.Go.OpenSpec.ofChange s with cond := some uptoSmall }

/-- 'selvedgelaw06.SerialEscapes', WHERE WHAT IT READS IS OF BULK AT MOST 1048576: true; the input reads as it did. -/
def serialEscapesUptoRow : OpenClaim := { program := "ytpfhgolamlnhiaadoor", sum := "93d43f140c918a052dafb82489064ca13da10c06a54fa8debadf905168e1f7e1", func := "selvedge/selvedgelaw06.SerialEscapes", spec := "serialEscapes", inPlace := ["internal/abi.NoEscape", "internal/bytealg.IndexByteString"], unfollowed := true, recurses := true, named := ["unicode/utf8.first", "unicode/utf8.acceptRanges"], apart := false, laid := [("unicode/utf8.acceptRanges", laid_unicode_utf8_acceptRanges), ("unicode/utf8.first", laid_unicode_utf8_first)], narrowed := true }
def SerialEscapesUptoSaid : Prop := serialEscapesUptoRow.holds Tryd.pinned (OpenSpec.upto serialEscapesSpec)

/-- 'selvedgelaw06.SerialSafe', WHERE WHAT IT READS IS OF BULK AT MOST 1048576: true; the input reads as it did. -/
def serialSafeUptoRow : OpenClaim := { program := "ytpfhgolamlnhiaadoor", sum := "93d43f140c918a052dafb82489064ca13da10c06a54fa8debadf905168e1f7e1", func := "selvedge/selvedgelaw06.SerialSafe", spec := "serialSafe", inPlace := ["internal/bytealg.IndexByteString", "internal/abi.NoEscape"], unfollowed := true, recurses := true, named := ["unicode/utf8.first", "unicode/utf8.acceptRanges"], apart := false, laid := [("unicode/utf8.acceptRanges", laid_unicode_utf8_acceptRanges), ("unicode/utf8.first", laid_unicode_utf8_first)], narrowed := true }
def SerialSafeUptoSaid : Prop := serialSafeUptoRow.holds Tryd.pinned (OpenSpec.upto serialSafeSpec)

/-- 'selvedgelaw06.SerialJoins', WHERE WHAT IT READS IS OF BULK AT MOST 1048576: true; the input reads as it did. -/
def serialJoinsUptoRow : OpenClaim := { program := "ytpfhgolamlnhiaadoor", sum := "93d43f140c918a052dafb82489064ca13da10c06a54fa8debadf905168e1f7e1", func := "selvedge/selvedgelaw06.SerialJoins", spec := "serialJoins", inPlace := ["internal/bytealg.IndexByteString", "internal/abi.NoEscape"], unfollowed := true, recurses := true, named := ["unicode/utf8.first", "unicode/utf8.acceptRanges"], apart := false, laid := [("unicode/utf8.acceptRanges", laid_unicode_utf8_acceptRanges), ("unicode/utf8.first", laid_unicode_utf8_first)], narrowed := true }
def SerialJoinsUptoSaid : Prop := serialJoinsUptoRow.holds Tryd.pinned (OpenSpec.upto serialJoinsSpec)

/-- 'selvedgelaw06.SerialBack', WHERE WHAT IT READS IS OF BULK AT MOST 1048576: true; the input reads as it did. -/
def serialBackUptoRow : OpenClaim := { program := "ytpfhgolamlnhiaadoor", sum := "93d43f140c918a052dafb82489064ca13da10c06a54fa8debadf905168e1f7e1", func := "selvedge/selvedgelaw06.SerialBack", spec := "serialBack", inPlace := ["internal/bytealg.IndexByteString", "internal/abi.NoEscape", "internal/bytealg.abigen_runtime_cmpstring"], unfollowed := true, recurses := true, named := ["unicode/utf8.first", "unicode/utf8.acceptRanges", "selvedge/charref.names", "selvedge/charref.others"], apart := false, laid := [("unicode/utf8.acceptRanges", laid_unicode_utf8_acceptRanges), ("selvedge/charref.names", laid_selvedge_charref_names), ("selvedge/charref.others", laid_selvedge_charref_others), ("unicode/utf8.first", laid_unicode_utf8_first)], narrowed := true }
def SerialBackUptoSaid : Prop := serialBackUptoRow.holds Tryd.pinned (OpenSpec.upto serialBackSpec)

/-- 'selvedgelaw05.TreeKinds', WHERE WHAT IT READS IS OF BULK AT MOST 1048576: true; the input reads as it did. -/
def treeKindsUptoRow : OpenClaim := { program := "ytpfhgolamlnhiaadoor", sum := "93d43f140c918a052dafb82489064ca13da10c06a54fa8debadf905168e1f7e1", func := "selvedge/selvedgelaw05.TreeKinds", spec := "treeKinds", inPlace := ["internal/abi.NoEscape", "internal/bytealg.IndexByteString", "internal/bytealg.abigen_runtime_cmpstring", "internal/bytealg.IndexString"], unfollowed := true, recurses := true, named := ["selvedge/charref.names", "selvedge/charref.others", "unicode/utf8.first", "unicode/utf8.acceptRanges", "internal/bytealg.MaxLen"], apart := false, laid := [("unicode/utf8.acceptRanges", laid_unicode_utf8_acceptRanges), ("selvedge/charref.names", laid_selvedge_charref_names), ("selvedge/charref.others", laid_selvedge_charref_others), ("unicode/utf8.first", laid_unicode_utf8_first)], narrowed := true }
def TreeKindsUptoSaid : Prop := treeKindsUptoRow.holds Tryd.pinned (OpenSpec.upto treeKindsSpec)

/-- 'selvedgelaw05.TreeWraps', WHERE WHAT IT READS IS OF BULK AT MOST 1048576: true; the input reads as it did. -/
def treeWrapsUptoRow : OpenClaim := { program := "ytpfhgolamlnhiaadoor", sum := "93d43f140c918a052dafb82489064ca13da10c06a54fa8debadf905168e1f7e1", func := "selvedge/selvedgelaw05.TreeWraps", spec := "treeWraps", inPlace := ["internal/abi.NoEscape", "internal/bytealg.IndexByteString", "internal/bytealg.abigen_runtime_cmpstring", "internal/bytealg.IndexString"], unfollowed := true, recurses := true, named := ["selvedge/charref.names", "selvedge/charref.others", "unicode/utf8.first", "unicode/utf8.acceptRanges", "internal/bytealg.MaxLen"], apart := false, laid := [("unicode/utf8.acceptRanges", laid_unicode_utf8_acceptRanges), ("selvedge/charref.names", laid_selvedge_charref_names), ("selvedge/charref.others", laid_selvedge_charref_others), ("unicode/utf8.first", laid_unicode_utf8_first)], narrowed := true }
def TreeWrapsUptoSaid : Prop := treeWrapsUptoRow.holds Tryd.pinned (OpenSpec.upto treeWrapsSpec)

end Rows
end Go.Proofs.YtpfhgolamlnhiaaDoor
