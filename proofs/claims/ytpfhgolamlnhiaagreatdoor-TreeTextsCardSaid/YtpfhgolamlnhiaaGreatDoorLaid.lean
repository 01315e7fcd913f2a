/- What the rows' lists give: the tables of unicode/utf8 as the walks ask for them; a world that holds the listed variables. -/
import Derived.Test.YtpfhgolamlnhiaaGreatDoorRows
import Derived.Test.YtpfhgolamlnhiaaGreatDoorShelf
import Derived.Test.YtpfhgolamlnhiaaGreatDoorG
import Derived.Lib.LaidU8T
import Derived.WalkKit
import Derived.ProofKit
import Derived.OpenShut
import Derived.Deep.DeepHandedRow
set_option linter.unusedVariables false
namespace Go.Proofs.YtpfhgolamlnhiaaGreatDoor.Laid
open Go.Lib

theorem accept_data : (Rows.laid_unicode_utf8_acceptRanges : DataW Unit) = acceptData := by kernel_rfl
theorem first_data : Rows.laid_unicode_utf8_first = firstData := by kernel_rfl
theorem types : U8Types Tryz.prog Tryz.lays196_ren := U8Types.of196 Tryz.lays196
theorem extra : U8Extra Tryz.prog Tryz.lays196_ren where
  n3 := by kernel_rfl
  n4 := by kernel_rfl
  y3 := by kernel_rfl
  y4 := by kernel_rfl
  c5 := by kernel_rfl
  c119 := by kernel_rfl
  c138 := by kernel_rfl
theorem g1 {w : World} {l : List (String × DataW Unit)} (h : laidMet Tryz.prog l w) (h1 : ("unicode/utf8.acceptRanges", Rows.laid_unicode_utf8_acceptRanges) ∈ l) (h2 : ("unicode/utf8.first", Rows.laid_unicode_utf8_first) ∈ l) : G1 w := by
  have r1 := laidMet.reads h h1
  have r2 := laidMet.reads h h2
  rw [accept_data] at r1
  rw [first_data] at r2
  exact utf8Tabs_of_readsT types extra r2 r1

end Go.Proofs.YtpfhgolamlnhiaaGreatDoor.Laid
