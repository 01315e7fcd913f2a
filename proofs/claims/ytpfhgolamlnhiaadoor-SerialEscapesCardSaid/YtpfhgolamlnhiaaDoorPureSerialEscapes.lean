/- The plain law of SerialEscapes. -/
import Derived.Test.YtpfhgolamlnhiaaDoorWorks06
import Derived.Test.YtpfhgolamlnhiaaDoorLawA
import Derived.Test.YtpfhgolamlnhiaaDoorXD
set_option linter.unusedVariables false
namespace Go.Proofs.YtpfhgolamlnhiaaDoor.Pure
open Go.Proofs.YtpfhgolamlnhiaaDoor Go.Proofs.YtpfhgolamlnhiaaDoor.XT Go.Proofs.YtpfhgolamlnhiaaDoor.XA Go.Proofs.YtpfhgolamlnhiaaDoor.XB Go.Proofs.YtpfhgolamlnhiaaDoor.XC Go.Proofs.YtpfhgolamlnhiaaDoor.XD
theorem SerialEscapes (a0 : ByteArray) : ∃ k, selvedgelaw06_SerialEscapes.f k a0 = some true := by
  refine ⟨20100, ?_⟩
  have hw := works06_le 20100 (by omega)
  unfold selvedgelaw06_SerialEscapes.f
  split
  · rw [hw]; rfl
  · rename_i hs
    have e1 := rEscape_some false a0 (by omega) 20100 (by omega)
    have e2 := rEscape_some true a0 (by omega) 20100 (by omega)
    rw [e1, e2]
    unfold x_Escape.f x_EscapeAttr.f
    rw [if_pos (by omega), if_pos (by omega)]
    simp only [Option.bind_some]
    rw [if_pos trivial, if_pos trivial, hw]
    rfl
end Go.Proofs.YtpfhgolamlnhiaaDoor.Pure
