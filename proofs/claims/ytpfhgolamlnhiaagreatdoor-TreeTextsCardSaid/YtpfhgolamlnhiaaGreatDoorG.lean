/- What the walks ask of package-level variables: the two tables of unicode/utf8 are as Go's text lays them. -/
import Derived.Test.YtpfhgolamlnhiaaGreatDoorProg
import Derived.Shelf.Unicode.DecodeSlow
import Derived.Lib.LaidTab
namespace Go.Proofs.YtpfhgolamlnhiaaGreatDoor
open Go.RowKit

/-- unicode/utf8's tables. -/
def G1 (w : World) : Prop := Lib.Utf8Tabs 0 1 w
theorem G1.below {w w' : World} (h : G1 w) (hb : Below w.heap.size w w') : G1 w' := Go.Proofs.Utf8Tabs_below h hb
end Go.Proofs.YtpfhgolamlnhiaaGreatDoor
