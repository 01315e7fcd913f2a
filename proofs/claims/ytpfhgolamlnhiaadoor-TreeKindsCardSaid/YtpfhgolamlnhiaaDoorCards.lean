/-
  DERIVED. GIVEN WITH THE SEED: THE CARDS: each row of YtpfhgolamlnhiaaDoorRows.lean that lists a variable, with what it lists TIED to the program's text (the seventh form; the later family's looks); each row that meets fmt, with fmt's text TOLD by the authors' own Lean function (tested against real Go, not proved from fmt's source: count such statements apart). THE CARD IS WHAT COUNTS. Prove the row's statement (the work); the ties are given (YtpfhgolamlnhiaaDoorTie.lean); close each card by the builder's one call (the guide's Derived/Test/ToyasCard.lean, 'card_holds'). Laid BY PROGRAM, IN A SANDBOX (cutbox-door.mjs). By AI agents, Wed Nov 11 2026. No macro, syntax, notation, axiom, sorry.
-/
import Derived.Test.YtpfhgolamlnhiaaDoorRows
import GoSem.ClaimSeven
namespace Go.Proofs.YtpfhgolamlnhiaaDoor
namespace Rows

/-- THE TIED CARD OF 'selvedgelaw06.SerialEscapes'. -/
def serialEscapesCard : Claim7 := { stood := { row := serialEscapesRow, standIns := [], harness := (true, "5e2cde292ae1aa895f83b82720ec3cd5486a6cc440ffd7c8c4aaf0275250790f"), looks := false }, kinds := [], alts := [], laidByText := true, laidKinds := [.data, .pinned], laidTests := true, laidLooks := .later }
def SerialEscapesCardSaid : Prop := Claim7.holds Tryd.pinned (.plain (OpenSpec.ofChange serialEscapesSpec)) serialEscapesCard

/-- THE TIED CARD OF 'selvedgelaw06.SerialSafe'. -/
def serialSafeCard : Claim7 := { stood := { row := serialSafeRow, standIns := [], harness := (true, "5e2cde292ae1aa895f83b82720ec3cd5486a6cc440ffd7c8c4aaf0275250790f"), looks := false }, kinds := [], alts := [], laidByText := true, laidKinds := [.data, .pinned], laidTests := true, laidLooks := .later }
def SerialSafeCardSaid : Prop := Claim7.holds Tryd.pinned (.plain (OpenSpec.ofChange serialSafeSpec)) serialSafeCard

/-- THE TIED CARD OF 'selvedgelaw06.SerialJoins'. -/
def serialJoinsCard : Claim7 := { stood := { row := serialJoinsRow, standIns := [], harness := (true, "5e2cde292ae1aa895f83b82720ec3cd5486a6cc440ffd7c8c4aaf0275250790f"), looks := false }, kinds := [], alts := [], laidByText := true, laidKinds := [.data, .pinned], laidTests := true, laidLooks := .later }
def SerialJoinsCardSaid : Prop := Claim7.holds Tryd.pinned (.plain (OpenSpec.ofChange serialJoinsSpec)) serialJoinsCard

/-- THE TIED CARD OF 'selvedgelaw06.SerialBack'. -/
def serialBackCard : Claim7 := { stood := { row := serialBackRow, standIns := [], harness := (true, "5e2cde292ae1aa895f83b82720ec3cd5486a6cc440ffd7c8c4aaf0275250790f"), looks := false }, kinds := [], alts := [], laidByText := true, laidKinds := [.data, .widerDeep, .data, .pinned], laidTests := true, laidLooks := .later }
def SerialBackCardSaid : Prop := Claim7.holds Tryd.pinned (.plain (OpenSpec.ofChange serialBackSpec)) serialBackCard

/-- THE TIED CARD OF 'selvedgelaw05.TreeKinds'. -/
def treeKindsCard : Claim7 := { stood := { row := treeKindsRow, standIns := [], harness := (true, "5e2cde292ae1aa895f83b82720ec3cd5486a6cc440ffd7c8c4aaf0275250790f"), looks := false }, kinds := [], alts := [], laidByText := true, laidKinds := [.data, .widerDeep, .data, .pinned], laidTests := true, laidLooks := .later }
def TreeKindsCardSaid : Prop := Claim7.holds Tryd.pinned (.plain (OpenSpec.ofChange treeKindsSpec)) treeKindsCard

/-- THE TIED CARD OF 'selvedgelaw05.TreeWraps'. -/
def treeWrapsCard : Claim7 := { stood := { row := treeWrapsRow, standIns := [], harness := (true, "5e2cde292ae1aa895f83b82720ec3cd5486a6cc440ffd7c8c4aaf0275250790f"), looks := false }, kinds := [], alts := [], laidByText := true, laidKinds := [.data, .widerDeep, .data, .pinned], laidTests := true, laidLooks := .later }
def TreeWrapsCardSaid : Prop := Claim7.holds Tryd.pinned (.plain (OpenSpec.ofChange treeWrapsSpec)) treeWrapsCard

/-- THE SECOND FORM's CARD OF 'selvedgelaw06.SerialEscapes'. -/
def serialEscapesUptoCard : Claim7 := { stood := { row := serialEscapesUptoRow, standIns := [], harness := (true, "5e2cde292ae1aa895f83b82720ec3cd5486a6cc440ffd7c8c4aaf0275250790f"), looks := false }, kinds := [], alts := [], laidByText := true, laidKinds := [.data, .pinned], laidTests := true, laidLooks := .later }
def SerialEscapesUptoCardSaid : Prop := Claim7.holds Tryd.pinned (.plain (OpenSpec.upto serialEscapesSpec)) serialEscapesUptoCard

/-- THE SECOND FORM's CARD OF 'selvedgelaw06.SerialSafe'. -/
def serialSafeUptoCard : Claim7 := { stood := { row := serialSafeUptoRow, standIns := [], harness := (true, "5e2cde292ae1aa895f83b82720ec3cd5486a6cc440ffd7c8c4aaf0275250790f"), looks := false }, kinds := [], alts := [], laidByText := true, laidKinds := [.data, .pinned], laidTests := true, laidLooks := .later }
def SerialSafeUptoCardSaid : Prop := Claim7.holds Tryd.pinned (.plain (OpenSpec.upto serialSafeSpec)) serialSafeUptoCard

/-- THE SECOND FORM's CARD OF 'selvedgelaw06.SerialJoins'. -/
def serialJoinsUptoCard : Claim7 := { stood := { row := serialJoinsUptoRow, standIns := [], harness := (true, "5e2cde292ae1aa895f83b82720ec3cd5486a6cc440ffd7c8c4aaf0275250790f"), looks := false }, kinds := [], alts := [], laidByText := true, laidKinds := [.data, .pinned], laidTests := true, laidLooks := .later }
def SerialJoinsUptoCardSaid : Prop := Claim7.holds Tryd.pinned (.plain (OpenSpec.upto serialJoinsSpec)) serialJoinsUptoCard

/-- THE SECOND FORM's CARD OF 'selvedgelaw06.SerialBack'. -/
def serialBackUptoCard : Claim7 := { stood := { row := serialBackUptoRow, standIns := [], harness := (true, "5e2cde292ae1aa895f83b82720ec3cd5486a6cc440ffd7c8c4aaf0275250790f"), looks := false }, kinds := [], alts := [], laidByText := true, laidKinds := [.data, .widerDeep, .data, .pinned], laidTests := true, laidLooks := .later }
def SerialBackUptoCardSaid : Prop := Claim7.holds Tryd.pinned (.plain (OpenSpec.upto serialBackSpec)) serialBackUptoCard

/-- THE SECOND FORM's CARD OF 'selvedgelaw05.TreeKinds'. -/
def treeKindsUptoCard : Claim7 := { stood := { row := treeKindsUptoRow, standIns := [], harness := (true, "5e2cde292ae1aa895f83b82720ec3cd5486a6cc440ffd7c8c4aaf0275250790f"), looks := false }, kinds := [], alts := [], laidByText := true, laidKinds := [.data, .widerDeep, .data, .pinned], laidTests := true, laidLooks := .later }
def TreeKindsUptoCardSaid : Prop := Claim7.holds Tryd.pinned (.plain (OpenSpec.upto treeKindsSpec)) treeKindsUptoCard

/-- THE SECOND FORM's CARD OF 'selvedgelaw05.TreeWraps'. -/
def treeWrapsUptoCard : Claim7 := { stood := { row := treeWrapsUptoRow, standIns := [], harness := (true, "5e2cde292ae1aa895f83b82720ec3cd5486a6cc440ffd7c8c4aaf0275250790f"), looks := false }, kinds := [], alts := [], laidByText := true, laidKinds := [.data, .widerDeep, .data, .pinned], laidTests := true, laidLooks := .later }
def TreeWrapsUptoCardSaid : Prop := Claim7.holds Tryd.pinned (.plain (OpenSpec.upto treeWrapsSpec)) treeWrapsUptoCard
end Rows
end Go.Proofs.YtpfhgolamlnhiaaDoor
