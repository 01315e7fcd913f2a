/- The contracts of library calls and of the escaping, in the print's form. -/
import Derived.Test.YtpfhgolamlnhiaaDoorXT
import Derived.Test.YtpfhgolamlnhiaaDoorShelf
import Derived.Test.YtpfhgolamlnhiaaDoorEscWalk
import Derived.Shelf.Unicode.ValidAny
set_option linter.unusedVariables false
namespace Go.Proofs.YtpfhgolamlnhiaaDoor
open Go.RowKit Go.Proofs.YtpfhgolamlnhiaaDoorW.PrintWords

def x_IndexByte.f (a0 : ByteArray) (a1 : Int) : Option Int := some (Lib.indexByte a0.data.toList a1.toNat.toUInt8)
theorem x_IndexByte.calls (a0 : ByteArray) (a1 : Int) (r : Int) (w : World) (h : x_IndexByte.f a0 a1 = some r) :
    Calls Tryd.prog 27 #[.string a0, .int .u8 a1] w fun e w' => e = .returned (.int .i64 r) ∧ Drawn0 w w' := by
  obtain rfl := Option.some.inj h
  refine (Tryd.strings_IndexByte a0 a1 w).mono ?_
  rintro e w' ⟨rfl, rfl⟩
  exact ⟨rfl, Drawn0.refl _⟩

def x_ValidString.f (a0 : ByteArray) : Option Bool := if a0.size ≤ 9223372036854775807 then some (Lib.validD a0.data.toList) else none
theorem x_ValidString.calls (a0 : ByteArray) (r : Bool) (w : World) (h : x_ValidString.f a0 = some r) (hG1 : G1 w) :
    Calls Tryd.prog 98 #[.string a0] w fun e w' => e = .returned (.bool r) ∧ Below w.heap.size w w' := by
  unfold x_ValidString.f at h
  split at h
  · obtain rfl := Option.some.inj h
    exact Any.utf8_ValidString Tryd.lays196 a0 w ‹_› hG1
  · cases h

/-- A text's escaping: strings of at most 2^44 bytes. -/
def x_Escape.f (a0 : ByteArray) : Option ByteArray := if a0.size ≤ 17592186044416 then some ⟨(Sv.esc false a0.data.toList).toArray⟩ else none
theorem x_Escape.calls (a0 : ByteArray) (r : ByteArray) (w : World) (h : x_Escape.f a0 = some r) :
    Calls Tryd.prog 9 #[.string a0] w fun e w' => e = .returned (.string r) ∧ Below w.heap.size w w' := by
  unfold x_Escape.f at h
  split at h
  · obtain rfl := Option.some.inj h
    exact Escape_any a0 w ‹_›
  · cases h
def x_EscapeAttr.f (a0 : ByteArray) : Option ByteArray := if a0.size ≤ 17592186044416 then some ⟨(Sv.esc true a0.data.toList).toArray⟩ else none
theorem x_EscapeAttr.calls (a0 : ByteArray) (r : ByteArray) (w : World) (h : x_EscapeAttr.f a0 = some r) :
    Calls Tryd.prog 11 #[.string a0] w fun e w' => e = .returned (.string r) ∧ Below w.heap.size w w' := by
  unfold x_EscapeAttr.f at h
  split at h
  · obtain rfl := Option.some.inj h
    exact EscapeAttr_any a0 w ‹_›
  · cases h
end Go.Proofs.YtpfhgolamlnhiaaDoor
