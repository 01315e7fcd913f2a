/- The plain law of SerialBack. -/
import Derived.Test.YtpfhgolamlnhiaaDoorWorks06
import Derived.Test.YtpfhgolamlnhiaaDoorWell
import Derived.Test.YtpfhgolamlnhiaaDoorBackLaw2
import Derived.Test.YtpfhgolamlnhiaaDoorXH
set_option linter.unusedVariables false
namespace Go.Proofs.YtpfhgolamlnhiaaDoor.Pure
open Go.RowKit Go.Proofs.YtpfhgolamlnhiaaDoor Go.Proofs.YtpfhgolamlnhiaaDoorW.PrintWords Go.Proofs.YtpfhgolamlnhiaaDoor.XT Go.Proofs.YtpfhgolamlnhiaaDoor.XB Go.Proofs.YtpfhgolamlnhiaaDoor.XC Go.Proofs.YtpfhgolamlnhiaaDoor.XF Go.Proofs.YtpfhgolamlnhiaaDoor.XH

theorem dec_some (attr : Bool) (s : ByteArray) (hs : s.size ≤ 3000) (k : Nat) (hk : 3001 ≤ k) : x_Decode.f k ⟨(Sv.esc attr s.data.toList).toArray⟩ attr = some s := by
  unfold x_Decode.f
  have l1 := Sv.esc_len attr s.data.toList
  rw [Sv.size_list] at l1
  rw [if_pos (by rw [mk_size]; omega), dec_esc attr attr s.size s.data.toList [] k (by rw [Sv.size_list]; exact Nat.le_refl _) (by rw [Sv.size_list]; simp; omega) (by omega), Option.bind_some]
  rfl
theorem SerialBack (a0 : ByteArray) : ∃ k, selvedgelaw06_SerialBack.f k a0 = some true := by
  obtain ⟨k, hk⟩ : ∃ k, k = 4000 := ⟨_, rfl⟩
  refine ⟨k, ?_⟩
  have jt : selvedgelaw06_SerialBack.j0 k a0 true = some true := by
    obtain ⟨K, rfl⟩ : ∃ K, k = K + 1 := ⟨k - 1, by omega⟩
    rw [selvedgelaw06_SerialBack.j0, if_pos rfl, works06_le K (by omega)]
    rfl
  unfold selvedgelaw06_SerialBack.f
  split
  · exact jt
  · rename_i hs
    obtain ⟨b, hb, -⟩ := well_some a0 (by omega) k (by omega)
    rw [hb, Option.bind_some]
    cases b
    · exact jt
    · obtain ⟨K, rfl⟩ : ∃ K, k = K + 1 := ⟨k - 1, by omega⟩
      have x1 : x_Escape.f a0 = some ⟨(Sv.esc false a0.data.toList).toArray⟩ := by unfold x_Escape.f; exact if_pos (by omega)
      have x2 : x_EscapeAttr.f a0 = some ⟨(Sv.esc true a0.data.toList).toArray⟩ := by unfold x_EscapeAttr.f; exact if_pos (by omega)
      rw [selvedgelaw06_SerialBack.j0, if_neg (by decide), x1, x2]
      simp only [Option.bind_some]
      rw [dec_some false a0 (by omega) K (by omega), Option.bind_some, if_pos rfl, dec_some true a0 (by omega) K (by omega), Option.bind_some, if_pos rfl, works06_le K (by omega)]
      rfl
end Go.Proofs.YtpfhgolamlnhiaaDoor.Pure
