/-
  NARROWER THAN 'FOR EVERY INPUT', by the rows' own cells (each row's printed sentence says how): TreeBuilds: laid · TreeTexts: laid · TreeNames: laid · TreeParses: laid · TreeRight: laid · TreeKnown: laid · SerialWrites: laid · SerialAgain: laid · SerialText: laid · SerialKnown: laid.
  DERIVED. THE GIVEN ROWS OF THIS SEAT. 10 by the template 'for every input the law returns true; each argument reads behind the call as it read before'; 0 by the template 'total and deterministic' (their statements: YtpfhgolamlnhiaaGreatDoorTotals.lean).
  GIVEN WITH THE SEED: the statements are not yours to turn. If you find one false, say at which input.
  Laid BY PROGRAM, IN A SANDBOX (cutbox-rows.mjs): the forced cells as the released guide's own fill.sh prints them over the translation e22335b52095f0eb… (all of the seat's roots in one cut). By AI agents, Wed Nov 11 2026. No macro, syntax, notation, axiom, sorry.
-/
import Derived.Test.YtpfhgolamlnhiaaGreatDoorChecked
import GoSem.PinnedTables
import GoSem.Claim
import GoSem.ClaimJoined
import GoSem.ClaimMapViews
import Derived.JoinedTies
import Derived.KernelRfl
namespace Go.Proofs.YtpfhgolamlnhiaaGreatDoor
/- THE CELL 'sum', in the pinned program and in every row, IS THE sha256 OF THE DUMP (.gsa) THAT YtpfhgolamlnhiaaGreatDoorProg.lean LOADS. Nothing in Lean hashes anything: it is a label: what it is worth is what the hold of that sum in a sandbox is worth. -/
noncomputable def Tryz.pinned : Pinned := { name := "ytpfhgolamlnhiaagreatdoor", sum := "e22335b52095f0ebc4e17cd0c150421eb8eb46f3a9837da4343c1c5dacb23d96", checked := Tryz.checked }
namespace Rows
def none {H : Type} : Left H := { results := [], args := [] }

/- WHAT THE LISTED PACKAGE-LEVEL VARIABLES READ AS WHEN THE CALL BEGINS. Each datum BY PROGRAM (the guide's laid-datum.mjs) off the statement by which the dump's own 'gosem.cut.vars' lays the variable. In a bare row this is a premise. The card (YtpfhgolamlnhiaaGreatDoorCards.lean) ties it to the program's text. -/
def laid_unicode_utf8_acceptRanges {H : Type} : DataW H := .agg [.agg [.lit (.int .u8 128), .lit (.int .u8 191)], .agg [.lit (.int .u8 160), .lit (.int .u8 191)], .agg [.lit (.int .u8 128), .lit (.int .u8 159)], .agg [.lit (.int .u8 144), .lit (.int .u8 191)], .agg [.lit (.int .u8 128), .lit (.int .u8 143)], .agg [.lit (.int .u8 0), .lit (.int .u8 0)], .agg [.lit (.int .u8 0), .lit (.int .u8 0)], .agg [.lit (.int .u8 0), .lit (.int .u8 0)], .agg [.lit (.int .u8 0), .lit (.int .u8 0)], .agg [.lit (.int .u8 0), .lit (.int .u8 0)], .agg [.lit (.int .u8 0), .lit (.int .u8 0)], .agg [.lit (.int .u8 0), .lit (.int .u8 0)], .agg [.lit (.int .u8 0), .lit (.int .u8 0)], .agg [.lit (.int .u8 0), .lit (.int .u8 0)], .agg [.lit (.int .u8 0), .lit (.int .u8 0)], .agg [.lit (.int .u8 0), .lit (.int .u8 0)]]
def laid_selvedge_charref_names {H : Type} : DataW H := .agg [.agg [.lit (.string [65, 77, 80]), .lit (.int .i32 38), .lit (.bool true)], .agg [.lit (.string [67, 79, 80, 89]), .lit (.int .i32 169), .lit (.bool true)], .agg [.lit (.string [71, 84]), .lit (.int .i32 62), .lit (.bool true)], .agg [.lit (.string [76, 84]), .lit (.int .i32 60), .lit (.bool true)], .agg [.lit (.string [81, 85, 79, 84]), .lit (.int .i32 34), .lit (.bool true)], .agg [.lit (.string [82, 69, 71]), .lit (.int .i32 174), .lit (.bool true)], .agg [.lit (.string [97, 109, 112]), .lit (.int .i32 38), .lit (.bool true)], .agg [.lit (.string [97, 112, 111, 115]), .lit (.int .i32 39), .lit (.bool false)], .agg [.lit (.string [98, 117, 108, 108]), .lit (.int .i32 8226), .lit (.bool false)], .agg [.lit (.string [99, 101, 110, 116]), .lit (.int .i32 162), .lit (.bool true)], .agg [.lit (.string [99, 111, 112, 121]), .lit (.int .i32 169), .lit (.bool true)], .agg [.lit (.string [100, 97, 114, 114]), .lit (.int .i32 8595), .lit (.bool false)], .agg [.lit (.string [100, 101, 103]), .lit (.int .i32 176), .lit (.bool true)], .agg [.lit (.string [100, 105, 118, 105, 100, 101]), .lit (.int .i32 247), .lit (.bool true)], .agg [.lit (.string [101, 109, 115, 112]), .lit (.int .i32 8195), .lit (.bool false)], .agg [.lit (.string [101, 110, 115, 112]), .lit (.int .i32 8194), .lit (.bool false)], .agg [.lit (.string [101, 117, 114, 111]), .lit (.int .i32 8364), .lit (.bool false)], .agg [.lit (.string [103, 101]), .lit (.int .i32 8805), .lit (.bool false)], .agg [.lit (.string [103, 116]), .lit (.int .i32 62), .lit (.bool true)], .agg [.lit (.string [104, 101, 108, 108, 105, 112]), .lit (.int .i32 8230), .lit (.bool false)], .agg [.lit (.string [105, 110]), .lit (.int .i32 8712), .lit (.bool false)], .agg [.lit (.string [105, 110, 102, 105, 110]), .lit (.int .i32 8734), .lit (.bool false)], .agg [.lit (.string [108, 97, 110, 103]), .lit (.int .i32 10216), .lit (.bool false)], .agg [.lit (.string [108, 97, 113, 117, 111]), .lit (.int .i32 171), .lit (.bool true)], .agg [.lit (.string [108, 97, 114, 114]), .lit (.int .i32 8592), .lit (.bool false)], .agg [.lit (.string [108, 100, 113, 117, 111]), .lit (.int .i32 8220), .lit (.bool false)], .agg [.lit (.string [108, 101]), .lit (.int .i32 8804), .lit (.bool false)], .agg [.lit (.string [108, 114, 109]), .lit (.int .i32 8206), .lit (.bool false)], .agg [.lit (.string [108, 115, 97, 113, 117, 111]), .lit (.int .i32 8249), .lit (.bool false)], .agg [.lit (.string [108, 115, 113, 117, 111]), .lit (.int .i32 8216), .lit (.bool false)], .agg [.lit (.string [108, 116]), .lit (.int .i32 60), .lit (.bool true)], .agg [.lit (.string [109, 100, 97, 115, 104]), .lit (.int .i32 8212), .lit (.bool false)], .agg [.lit (.string [109, 105, 100, 100, 111, 116]), .lit (.int .i32 183), .lit (.bool true)], .agg [.lit (.string [109, 105, 110, 117, 115]), .lit (.int .i32 8722), .lit (.bool false)], .agg [.lit (.string [110, 98, 115, 112]), .lit (.int .i32 160), .lit (.bool true)], .agg [.lit (.string [110, 100, 97, 115, 104]), .lit (.int .i32 8211), .lit (.bool false)], .agg [.lit (.string [110, 101]), .lit (.int .i32 8800), .lit (.bool false)], .agg [.lit (.string [110, 111, 116]), .lit (.int .i32 172), .lit (.bool true)], .agg [.lit (.string [110, 111, 116, 105, 110]), .lit (.int .i32 8713), .lit (.bool false)], .agg [.lit (.string [112, 97, 114, 97]), .lit (.int .i32 182), .lit (.bool true)], .agg [.lit (.string [112, 108, 117, 115, 109, 110]), .lit (.int .i32 177), .lit (.bool true)], .agg [.lit (.string [112, 111, 117, 110, 100]), .lit (.int .i32 163), .lit (.bool true)], .agg [.lit (.string [113, 117, 111, 116]), .lit (.int .i32 34), .lit (.bool true)], .agg [.lit (.string [114, 97, 110, 103]), .lit (.int .i32 10217), .lit (.bool false)], .agg [.lit (.string [114, 97, 113, 117, 111]), .lit (.int .i32 187), .lit (.bool true)], .agg [.lit (.string [114, 97, 114, 114]), .lit (.int .i32 8594), .lit (.bool false)], .agg [.lit (.string [114, 100, 113, 117, 111]), .lit (.int .i32 8221), .lit (.bool false)], .agg [.lit (.string [114, 101, 103]), .lit (.int .i32 174), .lit (.bool true)], .agg [.lit (.string [114, 108, 109]), .lit (.int .i32 8207), .lit (.bool false)], .agg [.lit (.string [114, 115, 97, 113, 117, 111]), .lit (.int .i32 8250), .lit (.bool false)], .agg [.lit (.string [114, 115, 113, 117, 111]), .lit (.int .i32 8217), .lit (.bool false)], .agg [.lit (.string [115, 101, 99, 116]), .lit (.int .i32 167), .lit (.bool true)], .agg [.lit (.string [115, 104, 121]), .lit (.int .i32 173), .lit (.bool true)], .agg [.lit (.string [116, 104, 105, 110, 115, 112]), .lit (.int .i32 8201), .lit (.bool false)], .agg [.lit (.string [116, 105, 109, 101, 115]), .lit (.int .i32 215), .lit (.bool true)], .agg [.lit (.string [117, 97, 114, 114]), .lit (.int .i32 8593), .lit (.bool false)], .agg [.lit (.string [121, 101, 110]), .lit (.int .i32 165), .lit (.bool true)], .agg [.lit (.string [122, 119, 106]), .lit (.int .i32 8205), .lit (.bool false)], .agg [.lit (.string [122, 119, 110, 106]), .lit (.int .i32 8204), .lit (.bool false)]]
def laid_selvedge_charref_others {H : Type} : DataW H := .agg [.lit (.int .i32 8364), .lit (.int .i32 0), .lit (.int .i32 8218), .lit (.int .i32 402), .lit (.int .i32 8222), .lit (.int .i32 8230), .lit (.int .i32 8224), .lit (.int .i32 8225), .lit (.int .i32 710), .lit (.int .i32 8240), .lit (.int .i32 352), .lit (.int .i32 8249), .lit (.int .i32 338), .lit (.int .i32 0), .lit (.int .i32 381), .lit (.int .i32 0), .lit (.int .i32 0), .lit (.int .i32 8216), .lit (.int .i32 8217), .lit (.int .i32 8220), .lit (.int .i32 8221), .lit (.int .i32 8226), .lit (.int .i32 8211), .lit (.int .i32 8212), .lit (.int .i32 732), .lit (.int .i32 8482), .lit (.int .i32 353), .lit (.int .i32 8250), .lit (.int .i32 339), .lit (.int .i32 0), .lit (.int .i32 382), .lit (.int .i32 376)]
/-- One of Go's own tables, pinned by name: the form's constant. -/
def laid_unicode_utf8_first : DataW Unit := Go.Pinned.utf8First

/-- 'selvedgelaw05.TreeBuilds': WHATEVER THE INPUT: true; the input reads as it did. -/
def treeBuildsSpec : ChangeSpec := { name := "treeBuilds", fn := fun _ => fun
  | [d] => { results := [.lit (.bool true)], args := [d] }
  | _ => none }
def treeBuildsRow : OpenClaim := { program := "ytpfhgolamlnhiaagreatdoor", sum := "e22335b52095f0ebc4e17cd0c150421eb8eb46f3a9837da4343c1c5dacb23d96", func := "selvedge/selvedgelaw05.TreeBuilds", spec := "treeBuilds", inPlace := ["internal/abi.NoEscape", "internal/bytealg.IndexByteString", "internal/bytealg.abigen_runtime_cmpstring", "internal/bytealg.IndexString"], unfollowed := true, recurses := true, named := ["selvedge/charref.names", "selvedge/charref.others", "unicode/utf8.first", "unicode/utf8.acceptRanges", "internal/bytealg.MaxLen"], apart := false, laid := [("unicode/utf8.acceptRanges", laid_unicode_utf8_acceptRanges), ("selvedge/charref.names", laid_selvedge_charref_names), ("selvedge/charref.others", laid_selvedge_charref_others), ("unicode/utf8.first", laid_unicode_utf8_first)] }
def TreeBuildsSaid : Prop := treeBuildsRow.holds Tryz.pinned (OpenSpec.ofChange treeBuildsSpec)

/-- ITS FALSE NEIGHBOUR: 'it returns false'. Refute it at one input. -/
def treeBuildsWrong : ChangeSpec := { name := "treeBuilds", fn := fun _ => fun
  | [d] => { results := [.lit (.bool false)], args := [d] }
  | _ => none }
def TreeBuildsWrongFalsely : Prop := treeBuildsRow.holds Tryz.pinned (OpenSpec.ofChange treeBuildsWrong)

/-- 'selvedgelaw05.TreeTexts': WHATEVER THE INPUT: true; the input reads as it did. -/
def treeTextsSpec : ChangeSpec := { name := "treeTexts", fn := fun _ => fun
  | [d1, d2] => { results := [.lit (.bool true)], args := [d1, d2] }
  | _ => none }
def treeTextsRow : OpenClaim := { program := "ytpfhgolamlnhiaagreatdoor", sum := "e22335b52095f0ebc4e17cd0c150421eb8eb46f3a9837da4343c1c5dacb23d96", func := "selvedge/selvedgelaw05.TreeTexts", spec := "treeTexts", inPlace := ["internal/abi.NoEscape", "internal/bytealg.IndexByteString", "internal/bytealg.abigen_runtime_cmpstring", "internal/bytealg.IndexString"], unfollowed := true, recurses := true, named := ["selvedge/charref.names", "selvedge/charref.others", "unicode/utf8.first", "unicode/utf8.acceptRanges", "internal/bytealg.MaxLen"], apart := false, laid := [("unicode/utf8.acceptRanges", laid_unicode_utf8_acceptRanges), ("selvedge/charref.names", laid_selvedge_charref_names), ("selvedge/charref.others", laid_selvedge_charref_others), ("unicode/utf8.first", laid_unicode_utf8_first)] }
def TreeTextsSaid : Prop := treeTextsRow.holds Tryz.pinned (OpenSpec.ofChange treeTextsSpec)

/-- ITS FALSE NEIGHBOUR: 'it returns false'. Refute it at one input. -/
def treeTextsWrong : ChangeSpec := { name := "treeTexts", fn := fun _ => fun
  | [d1, d2] => { results := [.lit (.bool false)], args := [d1, d2] }
  | _ => none }
def TreeTextsWrongFalsely : Prop := treeTextsRow.holds Tryz.pinned (OpenSpec.ofChange treeTextsWrong)

/-- 'selvedgelaw05.TreeNames': WHATEVER THE INPUT: true; the input reads as it did. -/
def treeNamesSpec : ChangeSpec := { name := "treeNames", fn := fun _ => fun
  | [d] => { results := [.lit (.bool true)], args := [d] }
  | _ => none }
def treeNamesRow : OpenClaim := { program := "ytpfhgolamlnhiaagreatdoor", sum := "e22335b52095f0ebc4e17cd0c150421eb8eb46f3a9837da4343c1c5dacb23d96", func := "selvedge/selvedgelaw05.TreeNames", spec := "treeNames", inPlace := ["internal/abi.NoEscape", "internal/bytealg.IndexByteString", "internal/bytealg.abigen_runtime_cmpstring", "internal/bytealg.IndexString"], unfollowed := true, recurses := true, named := ["selvedge/charref.names", "selvedge/charref.others", "unicode/utf8.first", "unicode/utf8.acceptRanges", "internal/bytealg.MaxLen"], apart := false, laid := [("unicode/utf8.acceptRanges", laid_unicode_utf8_acceptRanges), ("selvedge/charref.names", laid_selvedge_charref_names), ("selvedge/charref.others", laid_selvedge_charref_others), ("unicode/utf8.first", laid_unicode_utf8_first)] }
def TreeNamesSaid : Prop := treeNamesRow.holds Tryz.pinned (OpenSpec.ofChange treeNamesSpec)

/-- ITS FALSE NEIGHBOUR: 'it returns false'. Refute it at one input. -/
def treeNamesWrong : ChangeSpec := { name := "treeNames", fn := fun _ => fun
  | [d] => { results := [.lit (.bool false)], args := [d] }
  | _ => none }
def TreeNamesWrongFalsely : Prop := treeNamesRow.holds Tryz.pinned (OpenSpec.ofChange treeNamesWrong)

/-- 'selvedgelaw05.TreeParses': WHATEVER THE INPUT: true; the input reads as it did. -/
def treeParsesSpec : ChangeSpec := { name := "treeParses", fn := fun _ => fun
  | [d] => { results := [.lit (.bool true)], args := [d] }
  | _ => none }
def treeParsesRow : OpenClaim := { program := "ytpfhgolamlnhiaagreatdoor", sum := "e22335b52095f0ebc4e17cd0c150421eb8eb46f3a9837da4343c1c5dacb23d96", func := "selvedge/selvedgelaw05.TreeParses", spec := "treeParses", inPlace := ["internal/abi.NoEscape", "internal/bytealg.IndexByteString", "internal/bytealg.abigen_runtime_cmpstring", "internal/bytealg.IndexString"], unfollowed := true, recurses := true, named := ["selvedge/charref.names", "selvedge/charref.others", "unicode/utf8.first", "unicode/utf8.acceptRanges", "internal/bytealg.MaxLen"], apart := false, laid := [("unicode/utf8.acceptRanges", laid_unicode_utf8_acceptRanges), ("selvedge/charref.names", laid_selvedge_charref_names), ("selvedge/charref.others", laid_selvedge_charref_others), ("unicode/utf8.first", laid_unicode_utf8_first)] }
def TreeParsesSaid : Prop := treeParsesRow.holds Tryz.pinned (OpenSpec.ofChange treeParsesSpec)

/-- ITS FALSE NEIGHBOUR: 'it returns false'. Refute it at one input. -/
def treeParsesWrong : ChangeSpec := { name := "treeParses", fn := fun _ => fun
  | [d] => { results := [.lit (.bool false)], args := [d] }
  | _ => none }
def TreeParsesWrongFalsely : Prop := treeParsesRow.holds Tryz.pinned (OpenSpec.ofChange treeParsesWrong)

/-- 'selvedgelaw05.TreeRight': WHATEVER THE INPUT: true; the input reads as it did. -/
def treeRightSpec : ChangeSpec := { name := "treeRight", fn := fun _ => fun
  | [d] => { results := [.lit (.bool true)], args := [d] }
  | _ => none }
def treeRightRow : OpenClaim := { program := "ytpfhgolamlnhiaagreatdoor", sum := "e22335b52095f0ebc4e17cd0c150421eb8eb46f3a9837da4343c1c5dacb23d96", func := "selvedge/selvedgelaw05.TreeRight", spec := "treeRight", inPlace := ["internal/abi.NoEscape", "internal/bytealg.IndexByteString", "internal/bytealg.abigen_runtime_cmpstring", "internal/bytealg.IndexString"], unfollowed := true, recurses := true, named := ["selvedge/charref.names", "selvedge/charref.others", "unicode/utf8.first", "unicode/utf8.acceptRanges", "internal/bytealg.MaxLen"], apart := false, laid := [("unicode/utf8.acceptRanges", laid_unicode_utf8_acceptRanges), ("selvedge/charref.names", laid_selvedge_charref_names), ("selvedge/charref.others", laid_selvedge_charref_others), ("unicode/utf8.first", laid_unicode_utf8_first)] }
def TreeRightSaid : Prop := treeRightRow.holds Tryz.pinned (OpenSpec.ofChange treeRightSpec)

/-- ITS FALSE NEIGHBOUR: 'it returns false'. Refute it at one input. -/
def treeRightWrong : ChangeSpec := { name := "treeRight", fn := fun _ => fun
  | [d] => { results := [.lit (.bool false)], args := [d] }
  | _ => none }
def TreeRightWrongFalsely : Prop := treeRightRow.holds Tryz.pinned (OpenSpec.ofChange treeRightWrong)

/-- 'selvedgelaw05.TreeKnown': WHATEVER THE INPUT: true; the input reads as it did. -/
def treeKnownSpec : ChangeSpec := { name := "treeKnown", fn := fun _ => fun
  | [] => { results := [.lit (.bool true)], args := [] }
  | _ => none }
def treeKnownRow : OpenClaim := { program := "ytpfhgolamlnhiaagreatdoor", sum := "e22335b52095f0ebc4e17cd0c150421eb8eb46f3a9837da4343c1c5dacb23d96", func := "selvedge/selvedgelaw05.TreeKnown", spec := "treeKnown", inPlace := ["internal/abi.NoEscape", "internal/bytealg.IndexByteString", "internal/bytealg.abigen_runtime_cmpstring", "internal/bytealg.IndexString"], unfollowed := true, recurses := true, named := ["selvedge/charref.names", "selvedge/charref.others", "unicode/utf8.first", "unicode/utf8.acceptRanges", "internal/bytealg.MaxLen"], apart := false, laid := [("unicode/utf8.acceptRanges", laid_unicode_utf8_acceptRanges), ("selvedge/charref.names", laid_selvedge_charref_names), ("selvedge/charref.others", laid_selvedge_charref_others), ("unicode/utf8.first", laid_unicode_utf8_first)] }
def TreeKnownSaid : Prop := treeKnownRow.holds Tryz.pinned (OpenSpec.ofChange treeKnownSpec)

/-- ITS FALSE NEIGHBOUR: 'it returns false'. Refute it at one input. -/
def treeKnownWrong : ChangeSpec := { name := "treeKnown", fn := fun _ => fun
  | [] => { results := [.lit (.bool false)], args := [] }
  | _ => none }
def TreeKnownWrongFalsely : Prop := treeKnownRow.holds Tryz.pinned (OpenSpec.ofChange treeKnownWrong)

/-- 'selvedgelaw06.SerialWrites': WHATEVER THE INPUT: true; the input reads as it did. -/
def serialWritesSpec : ChangeSpec := { name := "serialWrites", fn := fun _ => fun
  | [d] => { results := [.lit (.bool true)], args := [d] }
  | _ => none }
def serialWritesRow : OpenClaim := { program := "ytpfhgolamlnhiaagreatdoor", sum := "e22335b52095f0ebc4e17cd0c150421eb8eb46f3a9837da4343c1c5dacb23d96", func := "selvedge/selvedgelaw06.SerialWrites", spec := "serialWrites", inPlace := ["internal/bytealg.IndexByteString", "internal/abi.NoEscape", "internal/bytealg.abigen_runtime_cmpstring", "internal/bytealg.IndexString"], unfollowed := true, recurses := true, named := ["unicode/utf8.first", "unicode/utf8.acceptRanges", "selvedge/charref.names", "selvedge/charref.others", "internal/bytealg.MaxLen"], apart := false, laid := [("unicode/utf8.acceptRanges", laid_unicode_utf8_acceptRanges), ("selvedge/charref.names", laid_selvedge_charref_names), ("selvedge/charref.others", laid_selvedge_charref_others), ("unicode/utf8.first", laid_unicode_utf8_first)] }
def SerialWritesSaid : Prop := serialWritesRow.holds Tryz.pinned (OpenSpec.ofChange serialWritesSpec)

/-- ITS FALSE NEIGHBOUR: 'it returns false'. Refute it at one input. -/
def serialWritesWrong : ChangeSpec := { name := "serialWrites", fn := fun _ => fun
  | [d] => { results := [.lit (.bool false)], args := [d] }
  | _ => none }
def SerialWritesWrongFalsely : Prop := serialWritesRow.holds Tryz.pinned (OpenSpec.ofChange serialWritesWrong)

/-- 'selvedgelaw06.SerialAgain': WHATEVER THE INPUT: true; the input reads as it did. -/
def serialAgainSpec : ChangeSpec := { name := "serialAgain", fn := fun _ => fun
  | [d] => { results := [.lit (.bool true)], args := [d] }
  | _ => none }
def serialAgainRow : OpenClaim := { program := "ytpfhgolamlnhiaagreatdoor", sum := "e22335b52095f0ebc4e17cd0c150421eb8eb46f3a9837da4343c1c5dacb23d96", func := "selvedge/selvedgelaw06.SerialAgain", spec := "serialAgain", inPlace := ["internal/bytealg.IndexByteString", "internal/abi.NoEscape", "internal/bytealg.abigen_runtime_cmpstring", "internal/bytealg.IndexString"], unfollowed := true, recurses := true, named := ["unicode/utf8.first", "unicode/utf8.acceptRanges", "selvedge/charref.names", "selvedge/charref.others", "internal/bytealg.MaxLen"], apart := false, laid := [("unicode/utf8.acceptRanges", laid_unicode_utf8_acceptRanges), ("selvedge/charref.names", laid_selvedge_charref_names), ("selvedge/charref.others", laid_selvedge_charref_others), ("unicode/utf8.first", laid_unicode_utf8_first)] }
def SerialAgainSaid : Prop := serialAgainRow.holds Tryz.pinned (OpenSpec.ofChange serialAgainSpec)

/-- ITS FALSE NEIGHBOUR: 'it returns false'. Refute it at one input. -/
def serialAgainWrong : ChangeSpec := { name := "serialAgain", fn := fun _ => fun
  | [d] => { results := [.lit (.bool false)], args := [d] }
  | _ => none }
def SerialAgainWrongFalsely : Prop := serialAgainRow.holds Tryz.pinned (OpenSpec.ofChange serialAgainWrong)

/-- 'selvedgelaw06.SerialText': WHATEVER THE INPUT: true; the input reads as it did. -/
def serialTextSpec : ChangeSpec := { name := "serialText", fn := fun _ => fun
  | [d1, d2] => { results := [.lit (.bool true)], args := [d1, d2] }
  | _ => none }
def serialTextRow : OpenClaim := { program := "ytpfhgolamlnhiaagreatdoor", sum := "e22335b52095f0ebc4e17cd0c150421eb8eb46f3a9837da4343c1c5dacb23d96", func := "selvedge/selvedgelaw06.SerialText", spec := "serialText", inPlace := ["internal/bytealg.IndexByteString", "internal/abi.NoEscape", "internal/bytealg.abigen_runtime_cmpstring", "internal/bytealg.IndexString"], unfollowed := true, recurses := true, named := ["unicode/utf8.first", "unicode/utf8.acceptRanges", "selvedge/charref.names", "selvedge/charref.others", "internal/bytealg.MaxLen"], apart := false, laid := [("unicode/utf8.acceptRanges", laid_unicode_utf8_acceptRanges), ("selvedge/charref.names", laid_selvedge_charref_names), ("selvedge/charref.others", laid_selvedge_charref_others), ("unicode/utf8.first", laid_unicode_utf8_first)] }
def SerialTextSaid : Prop := serialTextRow.holds Tryz.pinned (OpenSpec.ofChange serialTextSpec)

/-- ITS FALSE NEIGHBOUR: 'it returns false'. Refute it at one input. -/
def serialTextWrong : ChangeSpec := { name := "serialText", fn := fun _ => fun
  | [d1, d2] => { results := [.lit (.bool false)], args := [d1, d2] }
  | _ => none }
def SerialTextWrongFalsely : Prop := serialTextRow.holds Tryz.pinned (OpenSpec.ofChange serialTextWrong)

/-- 'selvedgelaw06.SerialKnown': WHATEVER THE INPUT: true; the input reads as it did. -/
def serialKnownSpec : ChangeSpec := { name := "serialKnown", fn := fun _ => fun
  | [] => { results := [.lit (.bool true)], args := [] }
  | _ => none }
def serialKnownRow : OpenClaim := { program := "ytpfhgolamlnhiaagreatdoor", sum := "e22335b52095f0ebc4e17cd0c150421eb8eb46f3a9837da4343c1c5dacb23d96", func := "selvedge/selvedgelaw06.SerialKnown", spec := "serialKnown", inPlace := ["internal/abi.NoEscape", "internal/bytealg.IndexByteString", "internal/bytealg.abigen_runtime_cmpstring", "internal/bytealg.IndexString"], unfollowed := true, recurses := true, named := ["unicode/utf8.first", "unicode/utf8.acceptRanges", "selvedge/charref.names", "selvedge/charref.others", "internal/bytealg.MaxLen"], apart := false, laid := [("unicode/utf8.acceptRanges", laid_unicode_utf8_acceptRanges), ("selvedge/charref.names", laid_selvedge_charref_names), ("selvedge/charref.others", laid_selvedge_charref_others), ("unicode/utf8.first", laid_unicode_utf8_first)] }
def SerialKnownSaid : Prop := serialKnownRow.holds Tryz.pinned (OpenSpec.ofChange serialKnownSpec)

/-- ITS FALSE NEIGHBOUR: 'it returns false'. Refute it at one input. -/
def serialKnownWrong : ChangeSpec := { name := "serialKnown", fn := fun _ => fun
  | [] => { results := [.lit (.bool false)], args := [] }
  | _ => none }
def SerialKnownWrongFalsely : Prop := serialKnownRow.holds Tryz.pinned (OpenSpec.ofChange serialKnownWrong)

/- THE SECOND FORM. 'bulk': how many values and letters a reading holds, each counted each time it is reached (what is shared counts as often as it is met; a slice's spare places count too). A statement '..UptoSaid' is the law's where the arguments, and the package variables that the reading takes, are together of bulk at most 1048576: NARROWER than '..Said'. Prove '..Said' where nothing that the law and all that it calls make is longer than what came in: it says more and counts as full. Else prove '..UptoSaid'. A law counts once. -/
mutual
def uptoBulk {H : Type} : DataW H → Nat
  | .lit (.string bytes) => bytes.length + 1
  | .lit _ => 1
  | .nil => 1
  | .ptr d => uptoBulk d + 1
  | .slice elems spare => uptoBulkAll elems + uptoBulkAll spare + 1
  | .agg parts => uptoBulkAll parts + 1
  | .iface _ d => uptoBulk d + 1
  | .map entries => uptoBulkEntries entries + 1
  | .held _ => 1
def uptoBulkAll {H : Type} : List (DataW H) → Nat
  | [] => 0
  | d :: r => uptoBulk d + uptoBulkAll r
def uptoBulkEntries {H : Type} : List (Lit × DataW H) → Nat
  | [] => 0
  | x :: r => uptoBulkEntry x + uptoBulkEntries r
def uptoBulkEntry {H : Type} : Lit × DataW H → Nat
  | (.string bytes, d) => bytes.length + uptoBulk d + 1
  | (_, d) => uptoBulk d + 1
 end
def uptoSmall : (H : Type) → List (DataW H) → Bool := fun _ ds => decide (uptoBulkAll ds ≤ 1048576)
def OpenSpec.upto (s : _root_.Go.ChangeSpec) : _root_.Go.OpenSpec := { _root_.Go.OpenSpec.ofChange s with cond := some uptoSmall }

/-- 'selvedgelaw05.TreeBuilds', WHERE WHAT IT READS IS OF BULK AT MOST 1048576: true; the input reads as it did. -/
def treeBuildsUptoRow : OpenClaim := { program := "ytpfhgolamlnhiaagreatdoor", sum := "e22335b52095f0ebc4e17cd0c150421eb8eb46f3a9837da4343c1c5dacb23d96", func := "selvedge/selvedgelaw05.TreeBuilds", spec := "treeBuilds", inPlace := ["internal/abi.NoEscape", "internal/bytealg.IndexByteString", "internal/bytealg.abigen_runtime_cmpstring", "internal/bytealg.IndexString"], unfollowed := true, recurses := true, named := ["selvedge/charref.names", "selvedge/charref.others", "unicode/utf8.first", "unicode/utf8.acceptRanges", "internal/bytealg.MaxLen"], apart := false, laid := [("unicode/utf8.acceptRanges", laid_unicode_utf8_acceptRanges), ("selvedge/charref.names", laid_selvedge_charref_names), ("selvedge/charref.others", laid_selvedge_charref_others), ("unicode/utf8.first", laid_unicode_utf8_first)], narrowed := true }
def TreeBuildsUptoSaid : Prop := treeBuildsUptoRow.holds Tryz.pinned (OpenSpec.upto treeBuildsSpec)

/-- 'selvedgelaw05.TreeTexts', WHERE WHAT IT READS IS OF BULK AT MOST 1048576: true; the input reads as it did. -/
def treeTextsUptoRow : OpenClaim := { program := "ytpfhgolamlnhiaagreatdoor", sum := "e22335b52095f0ebc4e17cd0c150421eb8eb46f3a9837da4343c1c5dacb23d96", func := "selvedge/selvedgelaw05.TreeTexts", spec := "treeTexts", inPlace := ["internal/abi.NoEscape", "internal/bytealg.IndexByteString", "internal/bytealg.abigen_runtime_cmpstring", "internal/bytealg.IndexString"], unfollowed := true, recurses := true, named := ["selvedge/charref.names", "selvedge/charref.others", "unicode/utf8.first", "unicode/utf8.acceptRanges", "internal/bytealg.MaxLen"], apart := false, laid := [("unicode/utf8.acceptRanges", laid_unicode_utf8_acceptRanges), ("selvedge/charref.names", laid_selvedge_charref_names), ("selvedge/charref.others", laid_selvedge_charref_others), ("unicode/utf8.first", laid_unicode_utf8_first)], narrowed := true }
def TreeTextsUptoSaid : Prop := treeTextsUptoRow.holds Tryz.pinned (OpenSpec.upto treeTextsSpec)

/-- 'selvedgelaw05.TreeNames', WHERE WHAT IT READS IS OF BULK AT MOST 1048576: true; the input reads as it did. -/
def treeNamesUptoRow : OpenClaim := { program := "ytpfhgolamlnhiaagreatdoor", sum := "e22335b52095f0ebc4e17cd0c150421eb8eb46f3a9837da4343c1c5dacb23d96", func := "selvedge/selvedgelaw05.TreeNames", spec := "treeNames", inPlace := ["internal/abi.NoEscape", "internal/bytealg.IndexByteString", "internal/bytealg.abigen_runtime_cmpstring", "internal/bytealg.IndexString"], unfollowed := true, recurses := true, named := ["selvedge/charref.names", "selvedge/charref.others", "unicode/utf8.first", "unicode/utf8.acceptRanges", "internal/bytealg.MaxLen"], apart := false, laid := [("unicode/utf8.acceptRanges", laid_unicode_utf8_acceptRanges), ("selvedge/charref.names", laid_selvedge_charref_names), ("selvedge/charref.others", laid_selvedge_charref_others), ("unicode/utf8.first", laid_unicode_utf8_first)], narrowed := true }
def TreeNamesUptoSaid : Prop := treeNamesUptoRow.holds Tryz.pinned (OpenSpec.upto treeNamesSpec)

/-- 'selvedgelaw05.TreeParses', WHERE WHAT IT READS IS OF BULK AT MOST 1048576: true; the input reads as it did. -/
def treeParsesUptoRow : OpenClaim := { program := "ytpfhgolamlnhiaagreatdoor", sum := "e22335b52095f0ebc4e17cd0c150421eb8eb46f3a9837da4343c1c5dacb23d96", func := "selvedge/selvedgelaw05.TreeParses", spec := "treeParses", inPlace := ["internal/abi.NoEscape", "internal/bytealg.IndexByteString", "internal/bytealg.abigen_runtime_cmpstring", "internal/bytealg.IndexString"], unfollowed := true, recurses := true, named := ["selvedge/charref.names", "selvedge/charref.others", "unicode/utf8.first", "unicode/utf8.acceptRanges", "internal/bytealg.MaxLen"], apart := false, laid := [("unicode/utf8.acceptRanges", laid_unicode_utf8_acceptRanges), ("selvedge/charref.names", laid_selvedge_charref_names), ("selvedge/charref.others", laid_selvedge_charref_others), ("unicode/utf8.first", laid_unicode_utf8_first)], narrowed := true }
def TreeParsesUptoSaid : Prop := treeParsesUptoRow.holds Tryz.pinned (OpenSpec.upto treeParsesSpec)

/-- 'selvedgelaw05.TreeRight', WHERE WHAT IT READS IS OF BULK AT MOST 1048576: true; the input reads as it did. -/
def treeRightUptoRow : OpenClaim := { program := "ytpfhgolamlnhiaagreatdoor", sum := "e22335b52095f0ebc4e17cd0c150421eb8eb46f3a9837da4343c1c5dacb23d96", func := "selvedge/selvedgelaw05.TreeRight", spec := "treeRight", inPlace := ["internal/abi.NoEscape", "internal/bytealg.IndexByteString", "internal/bytealg.abigen_runtime_cmpstring", "internal/bytealg.IndexString"], unfollowed := true, recurses := true, named := ["selvedge/charref.names", "selvedge/charref.others", "unicode/utf8.first", "unicode/utf8.acceptRanges", "internal/bytealg.MaxLen"], apart := false, laid := [("unicode/utf8.acceptRanges", laid_unicode_utf8_acceptRanges), ("selvedge/charref.names", laid_selvedge_charref_names), ("selvedge/charref.others", laid_selvedge_charref_others), ("unicode/utf8.first", laid_unicode_utf8_first)], narrowed := true }
def TreeRightUptoSaid : Prop := treeRightUptoRow.holds Tryz.pinned (OpenSpec.upto treeRightSpec)

/-- 'selvedgelaw05.TreeKnown', WHERE WHAT IT READS IS OF BULK AT MOST 1048576: true; the input reads as it did. -/
def treeKnownUptoRow : OpenClaim := { program := "ytpfhgolamlnhiaagreatdoor", sum := "e22335b52095f0ebc4e17cd0c150421eb8eb46f3a9837da4343c1c5dacb23d96", func := "selvedge/selvedgelaw05.TreeKnown", spec := "treeKnown", inPlace := ["internal/abi.NoEscape", "internal/bytealg.IndexByteString", "internal/bytealg.abigen_runtime_cmpstring", "internal/bytealg.IndexString"], unfollowed := true, recurses := true, named := ["selvedge/charref.names", "selvedge/charref.others", "unicode/utf8.first", "unicode/utf8.acceptRanges", "internal/bytealg.MaxLen"], apart := false, laid := [("unicode/utf8.acceptRanges", laid_unicode_utf8_acceptRanges), ("selvedge/charref.names", laid_selvedge_charref_names), ("selvedge/charref.others", laid_selvedge_charref_others), ("unicode/utf8.first", laid_unicode_utf8_first)], narrowed := true }
def TreeKnownUptoSaid : Prop := treeKnownUptoRow.holds Tryz.pinned (OpenSpec.upto treeKnownSpec)

/-- 'selvedgelaw06.SerialWrites', WHERE WHAT IT READS IS OF BULK AT MOST 1048576: true; the input reads as it did. -/
def serialWritesUptoRow : OpenClaim := { program := "ytpfhgolamlnhiaagreatdoor", sum := "e22335b52095f0ebc4e17cd0c150421eb8eb46f3a9837da4343c1c5dacb23d96", func := "selvedge/selvedgelaw06.SerialWrites", spec := "serialWrites", inPlace := ["internal/bytealg.IndexByteString", "internal/abi.NoEscape", "internal/bytealg.abigen_runtime_cmpstring", "internal/bytealg.IndexString"], unfollowed := true, recurses := true, named := ["unicode/utf8.first", "unicode/utf8.acceptRanges", "selvedge/charref.names", "selvedge/charref.others", "internal/bytealg.MaxLen"], apart := false, laid := [("unicode/utf8.acceptRanges", laid_unicode_utf8_acceptRanges), ("selvedge/charref.names", laid_selvedge_charref_names), ("selvedge/charref.others", laid_selvedge_charref_others), ("unicode/utf8.first", laid_unicode_utf8_first)], narrowed := true }
def SerialWritesUptoSaid : Prop := serialWritesUptoRow.holds Tryz.pinned (OpenSpec.upto serialWritesSpec)

/-- 'selvedgelaw06.SerialAgain', WHERE WHAT IT READS IS OF BULK AT MOST 1048576: true; the input reads as it did. -/
def serialAgainUptoRow : OpenClaim := { program := "ytpfhgolamlnhiaagreatdoor", sum := "e22335b52095f0ebc4e17cd0c150421eb8eb46f3a9837da4343c1c5dacb23d96", func := "selvedge/selvedgelaw06.SerialAgain", spec := "serialAgain", inPlace := ["internal/bytealg.IndexByteString", "internal/abi.NoEscape", "internal/bytealg.abigen_runtime_cmpstring", "internal/bytealg.IndexString"], unfollowed := true, recurses := true, named := ["unicode/utf8.first", "unicode/utf8.acceptRanges", "selvedge/charref.names", "selvedge/charref.others", "internal/bytealg.MaxLen"], apart := false, laid := [("unicode/utf8.acceptRanges", laid_unicode_utf8_acceptRanges), ("selvedge/charref.names", laid_selvedge_charref_names), ("selvedge/charref.others", laid_selvedge_charref_others), ("unicode/utf8.first", laid_unicode_utf8_first)], narrowed := true }
def SerialAgainUptoSaid : Prop := serialAgainUptoRow.holds Tryz.pinned (OpenSpec.upto serialAgainSpec)

/-- 'selvedgelaw06.SerialText', WHERE WHAT IT READS IS OF BULK AT MOST 1048576: true; the input reads as it did. -/
def serialTextUptoRow : OpenClaim := { program := "ytpfhgolamlnhiaagreatdoor", sum := "e22335b52095f0ebc4e17cd0c150421eb8eb46f3a9837da4343c1c5dacb23d96", func := "selvedge/selvedgelaw06.SerialText", spec := "serialText", inPlace := ["internal/bytealg.IndexByteString", "internal/abi.NoEscape", "internal/bytealg.abigen_runtime_cmpstring", "internal/bytealg.IndexString"], unfollowed := true, recurses := true, named := ["unicode/utf8.first", "unicode/utf8.acceptRanges", "selvedge/charref.names", "selvedge/charref.others", "internal/bytealg.MaxLen"], apart := false, laid := [("unicode/utf8.acceptRanges", laid_unicode_utf8_acceptRanges), ("selvedge/charref.names", laid_selvedge_charref_names), ("selvedge/charref.others", laid_selvedge_charref_others), ("unicode/utf8.first", laid_unicode_utf8_first)], narrowed := true }
def SerialTextUptoSaid : Prop := serialTextUptoRow.holds Tryz.pinned (OpenSpec.upto serialTextSpec)

/-- 'selvedgelaw06.SerialKnown', WHERE WHAT IT READS IS OF BULK AT MOST 1048576: true; the input reads as it did. -/
def serialKnownUptoRow : OpenClaim := { program := "ytpfhgolamlnhiaagreatdoor", sum := "e22335b52095f0ebc4e17cd0c150421eb8eb46f3a9837da4343c1c5dacb23d96", func := "selvedge/selvedgelaw06.SerialKnown", spec := "serialKnown", inPlace := ["internal/abi.NoEscape", "internal/bytealg.IndexByteString", "internal/bytealg.abigen_runtime_cmpstring", "internal/bytealg.IndexString"], unfollowed := true, recurses := true, named := ["unicode/utf8.first", "unicode/utf8.acceptRanges", "selvedge/charref.names", "selvedge/charref.others", "internal/bytealg.MaxLen"], apart := false, laid := [("unicode/utf8.acceptRanges", laid_unicode_utf8_acceptRanges), ("selvedge/charref.names", laid_selvedge_charref_names), ("selvedge/charref.others", laid_selvedge_charref_others), ("unicode/utf8.first", laid_unicode_utf8_first)], narrowed := true }
def SerialKnownUptoSaid : Prop := serialKnownUptoRow.holds Tryz.pinned (OpenSpec.upto serialKnownSpec)

end Rows
end Go.Proofs.YtpfhgolamlnhiaaGreatDoor
