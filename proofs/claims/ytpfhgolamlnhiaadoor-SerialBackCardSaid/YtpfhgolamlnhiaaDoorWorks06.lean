/- The chapter's example holds: as a plain value. -/
import Derived.Test.YtpfhgolamlnhiaaDoorXC
set_option linter.unusedVariables false
namespace Go.Proofs.YtpfhgolamlnhiaaDoor
open Go.Proofs.YtpfhgolamlnhiaaDoor.XT Go.Proofs.YtpfhgolamlnhiaaDoor.XA Go.Proofs.YtpfhgolamlnhiaaDoor.XB Go.Proofs.YtpfhgolamlnhiaaDoor.XC
set_option maxRecDepth 100000 in
theorem works06 : selvedgelaw06_works.f 60 = some true := by decide +kernel
theorem works06_le : ∀ k, 60 ≤ k → selvedgelaw06_works.f k = some true := by
  intro k hk
  obtain ⟨d, rfl⟩ := Nat.exists_eq_add_of_le hk
  induction d with
  | zero => exact works06
  | succ d ih => exact selvedgelaw06_works.mono (60 + d) _ (ih (by omega))
end Go.Proofs.YtpfhgolamlnhiaaDoor
