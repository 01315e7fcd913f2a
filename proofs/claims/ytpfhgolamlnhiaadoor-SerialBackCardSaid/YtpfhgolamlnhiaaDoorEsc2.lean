/- More of the escaping: how long it grows. -/
import Derived.Test.YtpfhgolamlnhiaaDoorEsc
namespace Sv
open Go
theorem esc1_len (attr : Bool) (c : UInt8) : (esc1 attr c).length ≤ 6 := by
  unfold esc1
  repeat' split
  all_goals simp
theorem esc_len (attr : Bool) : ∀ (l : List UInt8), (esc attr l).length ≤ 6 * l.length
  | [] => by simp [esc]
  | [c] => by have := esc1_len attr c; simp [esc]; omega
  | c :: d :: u => by
    rw [esc]
    split
    · have := esc_len attr u; simp; omega
    · have := esc_len attr (d :: u); have := esc1_len attr c; rw [List.length_append]; simp at *; omega
end Sv
