/- Small facts: numbers that don't wrap, a byte at a place. -/
import Derived.Test.YtpfhgolamlnhiaaDoorXA
import Derived.Test.YtpfhgolamlnhiaaDoorEsc
set_option linter.unusedVariables false
set_option linter.unusedSimpArgs false
namespace Go.Proofs.YtpfhgolamlnhiaaDoor
open Go.RowKit Go.Proofs.YtpfhgolamlnhiaaDoorW.PrintWords Go.Proofs.YtpfhgolamlnhiaaDoor.XT

theorem w64 (x : Int) (h : 0 ≤ x) (h' : x ≤ 1000000000000) : wrap64 x = x := by unfold wrap64; omega
theorem bt_at' (s : ByteArray) (i : Nat) (h : i < s.size) : bt s (i : Int) = (Sv.at' s i : Int) := by
  unfold bt Sv.at'
  simp only [Int.toNat_natCast]
  rw [dif_pos h]
  have : s[i] = s.get! i := by
    show s.data[i] = s.data[i]!
    rw [getElem!_pos s.data i h]
  rw [this]
end Go.Proofs.YtpfhgolamlnhiaaDoor
