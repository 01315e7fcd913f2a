/- The two kinds agree: as plain values. -/
import Derived.Test.YtpfhgolamlnhiaaGreatDoorXA
import Derived.Test.YtpfhgolamlnhiaaGreatDoorXR
import Derived.Test.YtpfhgolamlnhiaaGreatDoorAscii
import Derived.Test.YtpfhgolamlnhiaaGreatDoorParse
set_option linter.unusedVariables false
set_option linter.unusedSimpArgs false
namespace Go.Proofs.YtpfhgolamlnhiaaGreatDoor.Kinds
open Go.RowKit Go.Proofs.YtpfhgolamlnhiaaGreatDoor Go.Proofs.YtpfhgolamlnhiaaGreatDoorW.PrintWords Go.Proofs.YtpfhgolamlnhiaaGreatDoor.XT Go.Proofs.YtpfhgolamlnhiaaGreatDoor.XA Go.Proofs.YtpfhgolamlnhiaaGreatDoor.XR

-- The words that among compares, in their order.
mutual
def p0 : Nat → ByteArray → Int → Option (List (List UInt8))
  | 0, _, _ => none
  | k + 1, x1, x5 => if x5 < (x1.size : Int) then p1 k x1 x5 x5 else some []
def p1 : Nat → ByteArray → Int → Int → Option (List (List UInt8))
  | 0, _, _, _ => none
  | k + 1, x1, x5, x6 => if x6 < (x1.size : Int) then (if 0 ≤ x6 then (if bt x1 x6 = 32 then (if 0 ≤ x5 then (if x5 ≤ x6 then (if x6 ≤ (x1.size : Int) then (p0 k x1 (wrap64 (x6 + 1))).bind fun ps => some ((x1.extract (x5 : Int).toNat (x6 : Int).toNat).toList :: ps) else none) else none) else none) else p1 k x1 x5 (wrap64 (x6 + 1))) else none) else (if 0 ≤ x5 then (if x5 ≤ x6 then (if x6 ≤ (x1.size : Int) then (p0 k x1 (wrap64 (x6 + 1))).bind fun ps => some ((x1.extract (x5 : Int).toNat (x6 : Int).toNat).toList :: ps) else none) else none) else none)
end
theorem any_cons {x : List UInt8} {p : List UInt8} {ps : List (List UInt8)} {q : Option Bool} (h : q = some (ps.any fun p => decide (p = x))) : (if p = x then some true else q) = some ((p :: ps).any fun p => decide (p = x)) := by
  rw [List.any_cons, h]
  by_cases hp : p = x
  · rw [if_pos hp]; simp [hp]
  · rw [if_neg hp]; simp [hp]
theorem among_any (x0 x1 : ByteArray) : ∀ k, (∀ x5 ps, p0 k x1 x5 = some ps → selvedgeref05_among.l0 k x0 x1 x5 = some (ps.any fun p => decide (p = x0.toList))) ∧ (∀ x5 x6 ps, p1 k x1 x5 x6 = some ps → selvedgeref05_among.l1 k x0 x1 x5 x6 = some (ps.any fun p => decide (p = x0.toList)))
  | 0 => ⟨fun _ _ h => by simp [p0] at h, fun _ _ _ h => by simp [p1] at h⟩
  | k + 1 => by
    obtain ⟨i0, i1⟩ := among_any x0 x1 k
    refine ⟨fun x5 ps h => ?_, fun x5 x6 ps h => ?_⟩
    · rw [p0] at h
      rw [selvedgeref05_among.l0]
      split at h
      · rw [if_pos ‹_›]; exact i1 _ _ _ h
      · rw [if_neg ‹_›]; obtain rfl := Option.some.inj h; rfl
    · rw [p1] at h
      rw [selvedgeref05_among.l1]
      split at h
      · rw [if_pos ‹_›]
        split at h
        · rw [if_pos ‹_›]
          split at h
          · rw [if_pos ‹_›]
            split at h
            · rw [if_pos ‹_›]
              split at h
              · rw [if_pos ‹_›]
                split at h
                · rw [if_pos ‹_›]
                  obtain ⟨qs, h1, h2⟩ := Option.bind_eq_some_iff.1 h
                  obtain rfl := Option.some.inj h2
                  exact any_cons (i0 _ _ h1)
                · cases h
              · cases h
            · cases h
          · rw [if_neg ‹_›]; exact i1 _ _ _ h
        · cases h
      · rw [if_neg ‹_›]
        split at h
        · rw [if_pos ‹_›]
          split at h
          · rw [if_pos ‹_›]
            split at h
            · rw [if_pos ‹_›]
              obtain ⟨qs, h1, h2⟩ := Option.bind_eq_some_iff.1 h
              obtain rfl := Option.some.inj h2
              exact any_cons (i0 _ _ h1)
            · cases h
          · cases h
        · cases h
theorem among_of {L : ByteArray} {ws : List (List UInt8)} (h : p0 300 L 0 = some ws) (x0 : ByteArray) : selvedgeref05_among.f 300 x0 L = some (ws.any fun p => decide (p = x0.toList)) := (among_any x0 L 300).1 0 ws h
set_option maxRecDepth 100000 in
theorem wBlock : p0 300 ⟨#[100, 105, 118, 32, 117, 108, 32, 111, 108, 32, 115, 101, 99, 116, 105, 111, 110, 32, 97, 114, 116, 105, 99, 108, 101, 32, 104, 101, 97, 100, 101, 114, 32, 102, 111, 111, 116, 101, 114, 32, 109, 97, 105, 110, 32, 110, 97, 118, 32, 97, 115, 105, 100, 101, 32, 98, 108, 111, 99, 107, 113, 117, 111, 116, 101, 32, 102, 105, 103, 117, 114, 101]⟩ 0 = some [[100, 105, 118], [117, 108], [111, 108], [115, 101, 99, 116, 105, 111, 110], [97, 114, 116, 105, 99, 108, 101], [104, 101, 97, 100, 101, 114], [102, 111, 111, 116, 101, 114], [109, 97, 105, 110], [110, 97, 118], [97, 115, 105, 100, 101], [98, 108, 111, 99, 107, 113, 117, 111, 116, 101], [102, 105, 103, 117, 114, 101]] := by decide +kernel
set_option maxRecDepth 100000 in
theorem wHead : p0 300 ⟨#[104, 49, 32, 104, 50, 32, 104, 51, 32, 104, 52, 32, 104, 53, 32, 104, 54]⟩ 0 = some [[104, 49], [104, 50], [104, 51], [104, 52], [104, 53], [104, 54]] := by decide +kernel
set_option maxRecDepth 100000 in
theorem wInline : p0 300 ⟨#[115, 112, 97, 110, 32, 98, 32, 105, 32, 101, 109, 32, 115, 116, 114, 111, 110, 103, 32, 117, 32, 115, 32, 115, 109, 97, 108, 108, 32, 99, 111, 100, 101, 32, 98, 100, 105, 32, 98, 100, 111, 32, 97, 98, 98, 114, 32, 99, 105, 116, 101, 32, 113, 32, 115, 117, 98, 32, 115, 117, 112, 32, 109, 97, 114, 107]⟩ 0 = some [[115, 112, 97, 110], [98], [105], [101, 109], [115, 116, 114, 111, 110, 103], [117], [115], [115, 109, 97, 108, 108], [99, 111, 100, 101], [98, 100, 105], [98, 100, 111], [97, 98, 98, 114], [99, 105, 116, 101], [113], [115, 117, 98], [115, 117, 112], [109, 97, 114, 107]] := by decide +kernel
def allW : List (List UInt8) := [[112], [108, 105], [97], [98, 114], [119, 98, 114], [104, 114], [], [100, 105, 118], [117, 108], [111, 108], [115, 101, 99, 116, 105, 111, 110], [97, 114, 116, 105, 99, 108, 101], [104, 101, 97, 100, 101, 114], [102, 111, 111, 116, 101, 114], [109, 97, 105, 110], [110, 97, 118], [97, 115, 105, 100, 101], [98, 108, 111, 99, 107, 113, 117, 111, 116, 101], [102, 105, 103, 117, 114, 101], [104, 49], [104, 50], [104, 51], [104, 52], [104, 53], [104, 54], [115, 112, 97, 110], [98], [105], [101, 109], [115, 116, 114, 111, 110, 103], [117], [115], [115, 109, 97, 108, 108], [99, 111, 100, 101], [98, 100, 105], [98, 100, 111], [97, 98, 98, 114], [99, 105, 116, 101], [113], [115, 117, 98], [115, 117, 112], [109, 97, 114, 107]]

set_option maxHeartbeats 8000000 in
set_option maxRecDepth 100000 in
theorem kinds_eq (a0 : ByteArray) : ∃ r, tree_Kind.f 300 a0 = some r ∧ selvedgeref05_Kind.f 300 a0 = some r := by
  unfold selvedgeref05_Kind.f tree_Kind.f
  rw [among_of wBlock, among_of wHead, among_of wInline]
  simp only [Option.bind_some, tree_Kind.j0, tree_Kind.j1, tree_Kind.j2, selvedgeref05_Kind.j0]
  generalize a0.toList = X
  by_cases h : X ∈ allW
  · simp only [allW, List.mem_cons, List.mem_nil_iff, or_false, List.not_mem_nil] at h
    rcases h with rfl | rfl | rfl | rfl | rfl | rfl | rfl | rfl | rfl | rfl | rfl | rfl | rfl | rfl | rfl | rfl | rfl | rfl | rfl | rfl | rfl | rfl | rfl | rfl | rfl | rfl | rfl | rfl | rfl | rfl | rfl | rfl | rfl | rfl | rfl | rfl | rfl | rfl | rfl | rfl | rfl | rfl
    all_goals exact ⟨_, rfl, by decide +kernel⟩
  · have ne : ∀ c ∈ allW, ¬ X = c := fun c hc e => h (e ▸ hc)

    have n0 : ¬ X = ([112] : List UInt8) := ne _ (by decide)
    have m0 : ¬ ([112] : List UInt8) = X := fun e => n0 e.symm
    have b0 : (X == ([112] : List UInt8)) = false := beq_eq_false_iff_ne.mpr n0
    have n1 : ¬ X = ([108, 105] : List UInt8) := ne _ (by decide)
    have m1 : ¬ ([108, 105] : List UInt8) = X := fun e => n1 e.symm
    have b1 : (X == ([108, 105] : List UInt8)) = false := beq_eq_false_iff_ne.mpr n1
    have n2 : ¬ X = ([97] : List UInt8) := ne _ (by decide)
    have m2 : ¬ ([97] : List UInt8) = X := fun e => n2 e.symm
    have b2 : (X == ([97] : List UInt8)) = false := beq_eq_false_iff_ne.mpr n2
    have n3 : ¬ X = ([98, 114] : List UInt8) := ne _ (by decide)
    have m3 : ¬ ([98, 114] : List UInt8) = X := fun e => n3 e.symm
    have b3 : (X == ([98, 114] : List UInt8)) = false := beq_eq_false_iff_ne.mpr n3
    have n4 : ¬ X = ([119, 98, 114] : List UInt8) := ne _ (by decide)
    have m4 : ¬ ([119, 98, 114] : List UInt8) = X := fun e => n4 e.symm
    have b4 : (X == ([119, 98, 114] : List UInt8)) = false := beq_eq_false_iff_ne.mpr n4
    have n5 : ¬ X = ([104, 114] : List UInt8) := ne _ (by decide)
    have m5 : ¬ ([104, 114] : List UInt8) = X := fun e => n5 e.symm
    have b5 : (X == ([104, 114] : List UInt8)) = false := beq_eq_false_iff_ne.mpr n5
    have n6 : ¬ X = ([] : List UInt8) := ne _ (by decide)
    have m6 : ¬ ([] : List UInt8) = X := fun e => n6 e.symm
    have b6 : (X == ([] : List UInt8)) = false := beq_eq_false_iff_ne.mpr n6
    have n7 : ¬ X = ([100, 105, 118] : List UInt8) := ne _ (by decide)
    have m7 : ¬ ([100, 105, 118] : List UInt8) = X := fun e => n7 e.symm
    have b7 : (X == ([100, 105, 118] : List UInt8)) = false := beq_eq_false_iff_ne.mpr n7
    have n8 : ¬ X = ([117, 108] : List UInt8) := ne _ (by decide)
    have m8 : ¬ ([117, 108] : List UInt8) = X := fun e => n8 e.symm
    have b8 : (X == ([117, 108] : List UInt8)) = false := beq_eq_false_iff_ne.mpr n8
    have n9 : ¬ X = ([111, 108] : List UInt8) := ne _ (by decide)
    have m9 : ¬ ([111, 108] : List UInt8) = X := fun e => n9 e.symm
    have b9 : (X == ([111, 108] : List UInt8)) = false := beq_eq_false_iff_ne.mpr n9
    have n10 : ¬ X = ([115, 101, 99, 116, 105, 111, 110] : List UInt8) := ne _ (by decide)
    have m10 : ¬ ([115, 101, 99, 116, 105, 111, 110] : List UInt8) = X := fun e => n10 e.symm
    have b10 : (X == ([115, 101, 99, 116, 105, 111, 110] : List UInt8)) = false := beq_eq_false_iff_ne.mpr n10
    have n11 : ¬ X = ([97, 114, 116, 105, 99, 108, 101] : List UInt8) := ne _ (by decide)
    have m11 : ¬ ([97, 114, 116, 105, 99, 108, 101] : List UInt8) = X := fun e => n11 e.symm
    have b11 : (X == ([97, 114, 116, 105, 99, 108, 101] : List UInt8)) = false := beq_eq_false_iff_ne.mpr n11
    have n12 : ¬ X = ([104, 101, 97, 100, 101, 114] : List UInt8) := ne _ (by decide)
    have m12 : ¬ ([104, 101, 97, 100, 101, 114] : List UInt8) = X := fun e => n12 e.symm
    have b12 : (X == ([104, 101, 97, 100, 101, 114] : List UInt8)) = false := beq_eq_false_iff_ne.mpr n12
    have n13 : ¬ X = ([102, 111, 111, 116, 101, 114] : List UInt8) := ne _ (by decide)
    have m13 : ¬ ([102, 111, 111, 116, 101, 114] : List UInt8) = X := fun e => n13 e.symm
    have b13 : (X == ([102, 111, 111, 116, 101, 114] : List UInt8)) = false := beq_eq_false_iff_ne.mpr n13
    have n14 : ¬ X = ([109, 97, 105, 110] : List UInt8) := ne _ (by decide)
    have m14 : ¬ ([109, 97, 105, 110] : List UInt8) = X := fun e => n14 e.symm
    have b14 : (X == ([109, 97, 105, 110] : List UInt8)) = false := beq_eq_false_iff_ne.mpr n14
    have n15 : ¬ X = ([110, 97, 118] : List UInt8) := ne _ (by decide)
    have m15 : ¬ ([110, 97, 118] : List UInt8) = X := fun e => n15 e.symm
    have b15 : (X == ([110, 97, 118] : List UInt8)) = false := beq_eq_false_iff_ne.mpr n15
    have n16 : ¬ X = ([97, 115, 105, 100, 101] : List UInt8) := ne _ (by decide)
    have m16 : ¬ ([97, 115, 105, 100, 101] : List UInt8) = X := fun e => n16 e.symm
    have b16 : (X == ([97, 115, 105, 100, 101] : List UInt8)) = false := beq_eq_false_iff_ne.mpr n16
    have n17 : ¬ X = ([98, 108, 111, 99, 107, 113, 117, 111, 116, 101] : List UInt8) := ne _ (by decide)
    have m17 : ¬ ([98, 108, 111, 99, 107, 113, 117, 111, 116, 101] : List UInt8) = X := fun e => n17 e.symm
    have b17 : (X == ([98, 108, 111, 99, 107, 113, 117, 111, 116, 101] : List UInt8)) = false := beq_eq_false_iff_ne.mpr n17
    have n18 : ¬ X = ([102, 105, 103, 117, 114, 101] : List UInt8) := ne _ (by decide)
    have m18 : ¬ ([102, 105, 103, 117, 114, 101] : List UInt8) = X := fun e => n18 e.symm
    have b18 : (X == ([102, 105, 103, 117, 114, 101] : List UInt8)) = false := beq_eq_false_iff_ne.mpr n18
    have n19 : ¬ X = ([104, 49] : List UInt8) := ne _ (by decide)
    have m19 : ¬ ([104, 49] : List UInt8) = X := fun e => n19 e.symm
    have b19 : (X == ([104, 49] : List UInt8)) = false := beq_eq_false_iff_ne.mpr n19
    have n20 : ¬ X = ([104, 50] : List UInt8) := ne _ (by decide)
    have m20 : ¬ ([104, 50] : List UInt8) = X := fun e => n20 e.symm
    have b20 : (X == ([104, 50] : List UInt8)) = false := beq_eq_false_iff_ne.mpr n20
    have n21 : ¬ X = ([104, 51] : List UInt8) := ne _ (by decide)
    have m21 : ¬ ([104, 51] : List UInt8) = X := fun e => n21 e.symm
    have b21 : (X == ([104, 51] : List UInt8)) = false := beq_eq_false_iff_ne.mpr n21
    have n22 : ¬ X = ([104, 52] : List UInt8) := ne _ (by decide)
    have m22 : ¬ ([104, 52] : List UInt8) = X := fun e => n22 e.symm
    have b22 : (X == ([104, 52] : List UInt8)) = false := beq_eq_false_iff_ne.mpr n22
    have n23 : ¬ X = ([104, 53] : List UInt8) := ne _ (by decide)
    have m23 : ¬ ([104, 53] : List UInt8) = X := fun e => n23 e.symm
    have b23 : (X == ([104, 53] : List UInt8)) = false := beq_eq_false_iff_ne.mpr n23
    have n24 : ¬ X = ([104, 54] : List UInt8) := ne _ (by decide)
    have m24 : ¬ ([104, 54] : List UInt8) = X := fun e => n24 e.symm
    have b24 : (X == ([104, 54] : List UInt8)) = false := beq_eq_false_iff_ne.mpr n24
    have n25 : ¬ X = ([115, 112, 97, 110] : List UInt8) := ne _ (by decide)
    have m25 : ¬ ([115, 112, 97, 110] : List UInt8) = X := fun e => n25 e.symm
    have b25 : (X == ([115, 112, 97, 110] : List UInt8)) = false := beq_eq_false_iff_ne.mpr n25
    have n26 : ¬ X = ([98] : List UInt8) := ne _ (by decide)
    have m26 : ¬ ([98] : List UInt8) = X := fun e => n26 e.symm
    have b26 : (X == ([98] : List UInt8)) = false := beq_eq_false_iff_ne.mpr n26
    have n27 : ¬ X = ([105] : List UInt8) := ne _ (by decide)
    have m27 : ¬ ([105] : List UInt8) = X := fun e => n27 e.symm
    have b27 : (X == ([105] : List UInt8)) = false := beq_eq_false_iff_ne.mpr n27
    have n28 : ¬ X = ([101, 109] : List UInt8) := ne _ (by decide)
    have m28 : ¬ ([101, 109] : List UInt8) = X := fun e => n28 e.symm
    have b28 : (X == ([101, 109] : List UInt8)) = false := beq_eq_false_iff_ne.mpr n28
    have n29 : ¬ X = ([115, 116, 114, 111, 110, 103] : List UInt8) := ne _ (by decide)
    have m29 : ¬ ([115, 116, 114, 111, 110, 103] : List UInt8) = X := fun e => n29 e.symm
    have b29 : (X == ([115, 116, 114, 111, 110, 103] : List UInt8)) = false := beq_eq_false_iff_ne.mpr n29
    have n30 : ¬ X = ([117] : List UInt8) := ne _ (by decide)
    have m30 : ¬ ([117] : List UInt8) = X := fun e => n30 e.symm
    have b30 : (X == ([117] : List UInt8)) = false := beq_eq_false_iff_ne.mpr n30
    have n31 : ¬ X = ([115] : List UInt8) := ne _ (by decide)
    have m31 : ¬ ([115] : List UInt8) = X := fun e => n31 e.symm
    have b31 : (X == ([115] : List UInt8)) = false := beq_eq_false_iff_ne.mpr n31
    have n32 : ¬ X = ([115, 109, 97, 108, 108] : List UInt8) := ne _ (by decide)
    have m32 : ¬ ([115, 109, 97, 108, 108] : List UInt8) = X := fun e => n32 e.symm
    have b32 : (X == ([115, 109, 97, 108, 108] : List UInt8)) = false := beq_eq_false_iff_ne.mpr n32
    have n33 : ¬ X = ([99, 111, 100, 101] : List UInt8) := ne _ (by decide)
    have m33 : ¬ ([99, 111, 100, 101] : List UInt8) = X := fun e => n33 e.symm
    have b33 : (X == ([99, 111, 100, 101] : List UInt8)) = false := beq_eq_false_iff_ne.mpr n33
    have n34 : ¬ X = ([98, 100, 105] : List UInt8) := ne _ (by decide)
    have m34 : ¬ ([98, 100, 105] : List UInt8) = X := fun e => n34 e.symm
    have b34 : (X == ([98, 100, 105] : List UInt8)) = false := beq_eq_false_iff_ne.mpr n34
    have n35 : ¬ X = ([98, 100, 111] : List UInt8) := ne _ (by decide)
    have m35 : ¬ ([98, 100, 111] : List UInt8) = X := fun e => n35 e.symm
    have b35 : (X == ([98, 100, 111] : List UInt8)) = false := beq_eq_false_iff_ne.mpr n35
    have n36 : ¬ X = ([97, 98, 98, 114] : List UInt8) := ne _ (by decide)
    have m36 : ¬ ([97, 98, 98, 114] : List UInt8) = X := fun e => n36 e.symm
    have b36 : (X == ([97, 98, 98, 114] : List UInt8)) = false := beq_eq_false_iff_ne.mpr n36
    have n37 : ¬ X = ([99, 105, 116, 101] : List UInt8) := ne _ (by decide)
    have m37 : ¬ ([99, 105, 116, 101] : List UInt8) = X := fun e => n37 e.symm
    have b37 : (X == ([99, 105, 116, 101] : List UInt8)) = false := beq_eq_false_iff_ne.mpr n37
    have n38 : ¬ X = ([113] : List UInt8) := ne _ (by decide)
    have m38 : ¬ ([113] : List UInt8) = X := fun e => n38 e.symm
    have b38 : (X == ([113] : List UInt8)) = false := beq_eq_false_iff_ne.mpr n38
    have n39 : ¬ X = ([115, 117, 98] : List UInt8) := ne _ (by decide)
    have m39 : ¬ ([115, 117, 98] : List UInt8) = X := fun e => n39 e.symm
    have b39 : (X == ([115, 117, 98] : List UInt8)) = false := beq_eq_false_iff_ne.mpr n39
    have n40 : ¬ X = ([115, 117, 112] : List UInt8) := ne _ (by decide)
    have m40 : ¬ ([115, 117, 112] : List UInt8) = X := fun e => n40 e.symm
    have b40 : (X == ([115, 117, 112] : List UInt8)) = false := beq_eq_false_iff_ne.mpr n40
    have n41 : ¬ X = ([109, 97, 114, 107] : List UInt8) := ne _ (by decide)
    have m41 : ¬ ([109, 97, 114, 107] : List UInt8) = X := fun e => n41 e.symm
    have b41 : (X == ([109, 97, 114, 107] : List UInt8)) = false := beq_eq_false_iff_ne.mpr n41
    refine ⟨0, ?_, ?_⟩
    · simp only [n0, m0, b0, n1, m1, b1, n2, m2, b2, n3, m3, b3, n4, m4, b4, n5, m5, b5, n6, m6, b6, n7, m7, b7, n8, m8, b8, n9, m9, b9, n10, m10, b10, n11, m11, b11, n12, m12, b12, n13, m13, b13, n14, m14, b14, n15, m15, b15, n16, m16, b16, n17, m17, b17, n18, m18, b18, n19, m19, b19, n20, m20, b20, n21, m21, b21, n22, m22, b22, n23, m23, b23, n24, m24, b24, n25, m25, b25, n26, m26, b26, n27, m27, b27, n28, m28, b28, n29, m29, b29, n30, m30, b30, n31, m31, b31, n32, m32, b32, n33, m33, b33, n34, m34, b34, n35, m35, b35, n36, m36, b36, n37, m37, b37, n38, m38, b38, n39, m39, b39, n40, m40, b40, n41, m41, b41, if_false, ↓reduceIte, Bool.false_eq_true]
    · simp only [List.any_cons, List.any_nil, decide_false, Bool.or_false, Bool.false_or, n0, m0, b0, n1, m1, b1, n2, m2, b2, n3, m3, b3, n4, m4, b4, n5, m5, b5, n6, m6, b6, n7, m7, b7, n8, m8, b8, n9, m9, b9, n10, m10, b10, n11, m11, b11, n12, m12, b12, n13, m13, b13, n14, m14, b14, n15, m15, b15, n16, m16, b16, n17, m17, b17, n18, m18, b18, n19, m19, b19, n20, m20, b20, n21, m21, b21, n22, m22, b22, n23, m23, b23, n24, m24, b24, n25, m25, b25, n26, m26, b26, n27, m27, b27, n28, m28, b28, n29, m29, b29, n30, m30, b30, n31, m31, b31, n32, m32, b32, n33, m33, b33, n34, m34, b34, n35, m35, b35, n36, m36, b36, n37, m37, b37, n38, m38, b38, n39, m39, b39, n40, m40, b40, n41, m41, b41, if_false, ↓reduceIte, Bool.false_eq_true]
end Go.Proofs.YtpfhgolamlnhiaaGreatDoor.Kinds

set_option linter.unusedVariables false
set_option linter.unusedSimpArgs false
namespace Go.Proofs.YtpfhgolamlnhiaaGreatDoor.Ascii
open Go.RowKit Go.Proofs.YtpfhgolamlnhiaaGreatDoor Go.Proofs.YtpfhgolamlnhiaaGreatDoorW.PrintWords Go.Proofs.YtpfhgolamlnhiaaGreatDoor.XT Go.Proofs.YtpfhgolamlnhiaaGreatDoor.XQ Go.Proofs.YtpfhgolamlnhiaaGreatDoor.XA Go.Proofs.YtpfhgolamlnhiaaGreatDoor.XR

theorem let_all : (List.range 256).all (fun n => decide (selvedgeref04_Letter.f (n : Int) = some (letB n))) = true := by decide +kernel
theorem let_eq (c : UInt8) : selvedgeref04_Letter.f (c.toNat : Int) = some (letB c.toNat) := by
  have := List.all_eq_true.1 let_all c.toNat (List.mem_range.2 (UInt8.toNat_lt _))
  simpa using this
/-- Is it a digit. -/
def digB (c : Nat) : Bool := decide (48 ≤ c) && decide (c ≤ 57)
theorem dig_eq (c : UInt8) : selvedgeref04_Digit.f (c.toNat : Int) = some (digB c.toNat) := by
  unfold selvedgeref04_Digit.f digB
  by_cases h : 48 ≤ c.toNat
  · rw [if_pos (by omega)]
    have : decide (48 ≤ c.toNat) = true := decide_eq_true h
    rw [this, Bool.true_and]
    congr 1
    rw [decide_eq_decide]
    omega
  · rw [if_neg (by omega)]
    have : decide (48 ≤ c.toNat) = false := decide_eq_false h
    rw [this]
    rfl
theorem sm_all : (List.range 256).all (fun n => decide (((smallB n.toUInt8).toNat : Int) = if (n : Int) ≥ 65 then (if (n : Int) ≤ 90 then ((n : Int) + 32) % 256 else n) else n)) = true := by decide +kernel
theorem sm_of (c : UInt8) : ((smallB c).toNat : Int) = if (c.toNat : Int) ≥ 65 then (if (c.toNat : Int) ≤ 90 then ((c.toNat : Int) + 32) % 256 else c.toNat) else c.toNat := by
  have := List.all_eq_true.1 sm_all c.toNat (List.mem_range.2 (UInt8.toNat_lt _))
  have e : c.toNat.toUInt8 = c := by simp
  rw [e] at this
  exact of_decide_eq_true this
theorem small_go (l : List UInt8) (hl : l.length ≤ 200) : ∀ (k j : Nat) (acc : List Int), j ≤ l.length → l.length - j < k → acc.length ≤ j → selvedgeref04_Small.l0 k (T l) acc (j : Int) = some (strOfNums (acc ++ (l.drop j).map (fun c => ((smallB c).toNat : Int))))
  | 0, j, acc, h0, h1, h2 => by omega
  | k + 1, j, acc, h0, h1, h2 => by
    rw [selvedgeref04_Small.l0, T_size]
    by_cases hj : j < l.length
    · have hc : l[j]? = some l[j] := List.getElem?_eq_getElem hj
      have hw : wrap64 ((j : Int) + 1) = ((j + 1 : Nat) : Int) := by unfold wrap64; omega
      have hs := sm_of l[j]
      rw [if_pos (by omega), if_pos (by omega), bt_T _ _ _ hc, hw, List.drop_eq_getElem_cons hj, List.map_cons, hs]
      have rec_ := fun x => small_go l hl k (j + 1) (acc ++ [x]) (by omega) (by omega) (by simp; omega)
      by_cases h5 : (l[j].toNat : Int) ≥ 65
      · rw [if_pos h5]
        by_cases h6 : (l[j].toNat : Int) ≤ 90
        · rw [if_pos h6, if_pos (by omega), if_pos h5, if_pos h6, rec_, List.append_assoc, List.singleton_append]
        · rw [if_neg h6, if_pos (by omega), if_pos h5, if_neg h6, rec_, List.append_assoc, List.singleton_append]
      · rw [if_neg h5, if_pos (by omega), if_neg h5, rec_, List.append_assoc, List.singleton_append]
    · rw [if_neg (by omega), List.drop_eq_nil_of_le (by omega), List.map_nil, List.append_nil]
theorem small_eq (s : ByteArray) (hs : s.size ≤ 200) : selvedgeref04_Small.f 300 s = some (smallS s) := by
  have hl : s.data.toList.length ≤ 200 := by rw [Sv.size_list]; exact hs
  have h := small_go s.data.toList hl 300 0 [] (by omega) (by omega) (by simp)
  rw [T_of] at h
  unfold selvedgeref04_Small.f
  rw [show (0 : Int) = ((0 : Nat) : Int) from rfl, h, List.drop_zero, List.nil_append, ← strOf_bytes (smallS s)]
  unfold bytesOf smallS
  rw [List.map_map]
  rfl
def bX : Bs := ⟨[⟨0, ⟨#[]⟩, [], ⟨#[]⟩, -1, [1]⟩, ⟨2, ⟨#[]⟩, [], T [120], 0, []⟩], [0]⟩
theorem text_x : textB bs0 (T [120]) = some (0, bX) := by
  unfold textB
  rw [Lib.toList_data, if_neg (by decide), if_pos (by decide), if_neg (by decide)]
  unfold addB
  rw [if_neg (by decide), if_pos (by decide)]
  rfl
theorem kind_none : tree_Kind.f 300 ⟨#[]⟩ = some 0 := by decide +kernel
def tX (nm : ByteArray) : List NodeD := [⟨0, ⟨#[]⟩, [], ⟨#[]⟩, -1, [1, 2]⟩, ⟨2, ⟨#[]⟩, [], T [120], 0, []⟩, ⟨1, nm, [], ⟨#[]⟩, 0, []⟩]
theorem start_x (nm : ByteArray) (kd : Int) (hk : tree_Kind.f 300 nm = some kd) (h0 : kd ≠ 0) : ∃ o, startB 300 bX ⟨1, nm, [], false, ⟨#[]⟩⟩ = some (0, ⟨tX nm, o⟩) := by
  unfold startB
  have hi : (if kd = 3 then itemB 300 bX else some (0, bX)) = some (0, bX) := by split <;> rfl
  obtain ⟨en, hen⟩ : ∃ en, tree_ends.f kd = some en := by unfold tree_ends.f; split <;> (try split) <;> exact ⟨_, rfl⟩
  have hh : (if en = true then hasB bX wP else some false) = some false := by split <;> rfl
  rw [hk, Option.bind_some, if_neg h0, if_neg (by simp), hi, Option.bind_some, if_neg (by simp), hen, Option.bind_some, hh, Option.bind_some, if_neg (by decide)]
  unfold putB
  have h4 : (if kd = 4 then (topName bX).bind fun nm => (tree_Kind.f 300 nm).bind fun q => some (decide (q = 4)) else some false) = some false := by
    split
    · rw [show topName bX = some ⟨#[]⟩ from rfl, Option.bind_some, kind_none]; rfl
    · rfl
  have h6 : (if kd = 6 then hasB bX wA else some false) = some false := by split <;> rfl
  rw [if_neg (by simp), h4, Option.bind_some, if_neg (by decide), h6, Option.bind_some, if_neg (by decide), if_neg (by decide)]
  rw [show addB bX ⟨1, nm, [], ⟨#[]⟩, 0, []⟩ = some (0, ⟨tX nm, [0]⟩) by unfold addB; rw [if_neg (by decide), if_pos (by decide)]; rfl]
  rw [Option.bind_some]
  split
  · exact ⟨_, rfl⟩
  · exact ⟨_, rfl⟩
theorem build_name (nm : ByteArray) (kd : Int) (hk : tree_Kind.f 300 nm = some kd) :
    buildK 300 [⟨3, ⟨#[]⟩, [], false, T [120]⟩, ⟨1, nm, [], false, ⟨#[]⟩⟩] = if kd = 0 then some ([], 50, 1) else some (tX nm, 0, 0) := by
  unfold buildK
  have h1 : tokB 300 bs0 0 ⟨3, ⟨#[]⟩, [], false, T [120]⟩ = some (0, bX) := by
    unfold tokB
    rw [if_neg (by decide), if_neg (by decide), if_pos rfl, text_x]
  rw [buildGo, h1, Option.bind_some, if_pos rfl, buildGo]
  have h2 : tokB 300 bX (0 + 1) ⟨1, nm, [], false, ⟨#[]⟩⟩ = startB 300 bX ⟨1, nm, [], false, ⟨#[]⟩⟩ := by
    unfold tokB
    rw [if_pos rfl]
  rw [h2]
  by_cases h0 : kd = 0
  · rw [if_pos h0]
    have : startB 300 bX ⟨1, nm, [], false, ⟨#[]⟩⟩ = some (50, bX) := by unfold startB; rw [hk, Option.bind_some, if_pos h0]
    rw [this, Option.bind_some, if_neg (by simp)]
    rfl
  · rw [if_neg h0]
    obtain ⟨o, ho⟩ := start_x nm kd hk h0
    rw [ho, Option.bind_some, if_pos rfl]
    rfl
theorem parse_name (s : ByteArray) (kd : Int) (hl : s.size ≤ 100) (hne : s.size ≠ 0) (hld : ∀ c ∈ s.data.toList, ld c = true) (h0 : letB (Sv.at' s 0) = true) (hk : tree_Kind.f 300 (smallS s) = some kd) :
    parseK 300 (bytesOf (T (120 :: 60 :: (s.data.toList ++ [62])))) = if kd = 0 then some ([], 50, 1) else some (tX (smallS s), 0, 0) := by
  obtain ⟨⟨l⟩⟩ := s
  cases l with
  | nil => exact absurd rfl hne
  | cons c0 n =>
    rw [at_zero] at h0
    have hn : n.length < 100 := by
      have : (⟨⟨c0 :: n⟩⟩ : ByteArray).size = n.length + 1 := rfl
      omega
    have hld' : ∀ c ∈ c0 :: n, ld c = true := hld
    have hsz : (T (120 :: 60 :: (c0 :: n ++ [62]))).size = n.length + 4 := by rw [T_size]; simp
    have hu := utf_low 300 (T (120 :: 60 :: (c0 :: n ++ [62]))) (by
      intro c hc
      rw [T_list, List.mem_cons, List.mem_cons, List.mem_append] at hc
      rcases hc with rfl | rfl | hc | hc
      · decide
      · decide
      · exact ⟨(ld_of (hld' c hc)).1, (ld_of (hld' c hc)).2.1⟩
      · rw [List.mem_singleton] at hc; subst hc; decide) (by omega) (by omega)
    show parseK 300 (bytesOf (T (120 :: 60 :: (c0 :: n ++ [62])))) = _
    unfold parseK
    rw [hu, Option.bind_some, if_neg (by simp), if_neg (by show ¬ _ < (T _).size; omega), tokens_name c0 n hld' h0 (by omega), Option.bind_some, if_neg (by simp)]
    exact build_name _ kd hk
end Go.Proofs.YtpfhgolamlnhiaaGreatDoor.Ascii

set_option linter.unusedVariables false
set_option linter.unusedSimpArgs false
namespace Go.Proofs.YtpfhgolamlnhiaaGreatDoor.Pure
open Go.RowKit Go.Proofs.YtpfhgolamlnhiaaGreatDoor Go.Proofs.YtpfhgolamlnhiaaGreatDoorW.PrintWords Go.Proofs.YtpfhgolamlnhiaaGreatDoorW.PrintLast Go.Proofs.YtpfhgolamlnhiaaGreatDoor.XT Go.Proofs.YtpfhgolamlnhiaaGreatDoor.XA Go.Proofs.YtpfhgolamlnhiaaGreatDoor.XR Go.Proofs.YtpfhgolamlnhiaaGreatDoor.Ascii

theorem strOf3 (s : ByteArray) : (⟨#[120, 60]⟩ : ByteArray) ++ s ++ (⟨#[62]⟩ : ByteArray) = T (120 :: 60 :: (s.data.toList ++ [62])) := by
  obtain ⟨⟨l⟩⟩ := s
  apply ByteArray.ext
  apply Array.ext'
  simp [T]
theorem bytes_reads (w : World) (e : TypeId) (s : ByteArray) (hs : s.size ≤ 65536) : (Kd.int .u8).C (Lib.bytesWorld w e s) (some ⟨w.heap.size, 0, none⟩) s.size (bytesOf s) := by
  refine Kd.C_of_reads (enc := Value.int .u8) (d := (0 : Int)) (h1 := fun _ => rfl) ⟨bytesOf_length s, by omega, fun _ => ⟨_, rfl, fun j hj => ?_⟩⟩
  rw [add_plain, (smAt0 s w e j hj).1]
  congr 2
  unfold smI bytesOf
  rw [if_neg (by omega)]
  have hl : j < s.data.toList.length := by rw [Sv.size_list]; exact hj
  simp [List.getD_eq_getElem?_getD, List.getElem?_eq_getElem hl]
set_option maxHeartbeats 4000000 in
set_option maxRecDepth 100000 in
theorem treeNames_calls (a0 : ByteArray) (w : World) (hG : G2 w) : Calls Tryz.prog 5 #[.string a0] w fun e w' => e = .returned (.bool true) ∧ Below w.heap.size w w' := by
  have HG := Lib.hid hG
  have WC := fun (w' : World) (h : Below w.heap.size w w') => works05_calls w' (HG.out.below h)
  clear hG
  by_cases hl : 100 < a0.size
  · have hl' : (100 : Int) < (a0.size : Int) := by omega
    go_enter Tryz.func5, Tryz.ntmps5
    go_wp2_with (go_at_call 13; refine (WC _ (Below.refl _ _)).mono ?_; rintro e w1 ⟨rfl, hb1⟩)
    go_ret
    exact ⟨rfl, hb1⟩
  have hl' : ¬ (100 : Int) < (a0.size : Int) := by omega
  by_cases hz : a0.size = 0
  · have hq : (a0.toList == ([] : List UInt8)) = true := by
      rw [Lib.toList_data, beq_iff_eq]
      exact List.eq_nil_of_length_eq_zero (by rw [Sv.size_list]; exact hz)
    go_enter Tryz.func5, Tryz.ntmps5
    go_wp2_with (go_at_call 13; refine (WC _ (Below.refl _ _)).mono ?_; rintro e w1 ⟨rfl, hb1⟩)
    go_ret
    exact ⟨rfl, hb1⟩
  have hq : (a0.toList == ([] : List UInt8)) = false := by
    rw [Lib.toList_data, beq_eq_false_iff_ne]
    intro he
    have := Sv.size_list a0
    rw [he] at this
    exact hz this.symm
  have hp : 0 < a0.size := by omega
  have LC := fun (i : Nat) (h : i < a0.size) (w' : World) => selvedgeref04_Letter.calls ((a0[i].toNat : Nat) : Int) _ w' (let_eq a0[i])
  have DC := fun (i : Nat) (h : i < a0.size) (w' : World) => selvedgeref04_Digit.calls ((a0[i].toNat : Nat) : Int) _ w' (dig_eq a0[i])
  cases h0 : letB a0[0].toNat with
  | false =>
    have L0 := LC 0 hp
    rw [h0] at L0
    go_enter Tryz.func5, Tryz.ntmps5
    go_wp2_with (first | (go_at_call 20; refine (L0 _).mono ?_; rintro e w1 ⟨rfl, hd1⟩) | (go_at_call 13; refine (WC _ hd1.below).mono ?_; rintro e w2 ⟨rfl, hb2⟩))
    go_ret
    exact ⟨rfl, below_then hd1.below hd1.below.size hb2⟩
  | true =>
    have L0 := LC 0 hp
    rw [h0] at L0
    go_enter Tryz.func5, Tryz.ntmps5
    go_wp2_with (go_at_call 20; refine (L0 _).mono ?_; rintro e w1 ⟨rfl, hd1⟩)
    have HB1 := Lib.hid hd1.below
    clear hd1 L0
    go_loopw [3] (fun v3 wz => ∃ i : Nat, v3 = .int .i64 i ∧ i ≤ a0.size ∧ Hid (∀ j (h : j < a0.size), j < i → ld a0[j] = true) ∧ Hid (Below w.heap.size w wz)) (fun v3 wz => a0.size - (intOf v3).toNat)
    case atStart => exact ⟨0, rfl, Nat.zero_le _, Lib.hid (fun j h h' => absurd h' (by omega)), HB1⟩
    case round =>
      obtain ⟨i, rfl, hi, hS, hB⟩ := hrel
      by_cases hlt : i < a0.size
      · have LI := LC i hlt
        have DI := DC i hlt
        have HN := fun (h : ld a0[i] = true) => show Hid (∀ j (h : j < a0.size), j < i + 1 → ld a0[j] = true) from Lib.hid (fun j hj hji => by
          rcases Nat.lt_or_ge j i with h5 | h5
          · exact hS.out j hj h5
          · obtain rfl : j = i := by omega
            exact h)
        have hld : ld a0[i] = (letB a0[i].toNat || digB a0[i].toNat) := rfl
        rw [hld] at HN
        clear hld LC DC
        generalize letB a0[i].toNat = lb at *
        generalize digB a0[i].toNat = db at *
        cases lb with
        | true =>
          go_wp2_with (go_at_call 20; refine (LI _).mono ?_; rintro e w2 ⟨rfl, hd2⟩)
          exact ⟨⟨i + 1, by go_num, by omega, HN rfl, Lib.hid (below_then hB.out hB.out.size hd2.below)⟩, by simp [intOf]; omega⟩
        | false =>
          cases db with
          | true =>
            go_wp2_with (first | (go_at_call 20; refine (LI _).mono ?_; rintro e w2 ⟨rfl, hd2⟩) | (go_at_call 21; refine (DI _).mono ?_; rintro e w3 ⟨rfl, hd3⟩))
            exact ⟨⟨i + 1, by go_num, by omega, HN rfl, Lib.hid (below_then (below_then hB.out hB.out.size hd2.below) (Nat.le_trans hB.out.size hd2.below.size) hd3.below)⟩, by simp [intOf]; omega⟩
          | false =>
            go_wp2_with (first | (go_at_call 20; refine (LI _).mono ?_; rintro e w2 ⟨rfl, hd2⟩) | (go_at_call 21; refine (DI _).mono ?_; rintro e w3 ⟨rfl, hd3⟩; have hb3 := below_then (below_then hB.out hB.out.size hd2.below) (Nat.le_trans hB.out.size hd2.below.size) hd3.below) | (go_at_call 13; refine (WC _ hb3).mono ?_; rintro e w4 ⟨rfl, hb4⟩))
            go_ret
            exact ⟨rfl, below_then hb3 hb3.size hb4⟩
      · obtain rfl : i = a0.size := by omega
        have hall : ∀ c ∈ a0.data.toList, ld c = true := by
          intro c hc
          obtain ⟨j, hj, rfl⟩ := List.mem_iff_getElem.1 hc
          have hj' : j < a0.size := by rw [← Sv.size_list]; exact hj
          exact hS.out j hj' hj'
        obtain ⟨r, k1, k2⟩ := Kinds.kinds_eq (smallS a0)
        have PN := parse_name a0 r (by omega) hz hall (by rw [at_get a0 0 hp]; exact h0) k1
        have SC := fun (w' : World) => selvedgeref04_Small.calls 300 a0 (smallS a0) w' (small_eq a0 (by omega))
        have KC := fun (w' : World) => selvedgeref05_Kind.calls 300 (smallS a0) r w' k2
        clear k1 k2 hall hS LC DC
        have hgo : ∀ (t : List NodeD) (er pl : Int) (w3 : World) (X : ByteArray), X = T (120 :: 60 :: (a0.data.toList ++ [62])) → parseK 300 (bytesOf (T (120 :: 60 :: (a0.data.toList ++ [62])))) = some (t, er, pl) → Below w.heap.size w w3 →
            Calls Tryz.prog 19 #[.slice (some ⟨w3.heap.size, 0, none⟩) X.size (grownCap w3 X.size 0 5)] (Lib.bytesWorld w3 5 X)
              fun e w' => ∃ A' c', e = .returned (.tuple #[.slice A' t.length c', .int .i64 er, .int .i64 pl]) ∧ t.length ≤ c' ∧ Kd.C k38 w' A' t.length t ∧ Below w.heap.size w w' := by
          intro t er pl w3 X hX hP hb
          subst hX
          have hsz : (T (120 :: 60 :: (a0.data.toList ++ [62]))).size = a0.size + 3 := by rw [T_size]; simp [Sv.size_list]
          have hb4 := bytesWorld_below w3 5 (T (120 :: 60 :: (a0.data.toList ++ [62])))
          have hb5 := below_then hb hb.size hb4
          have hC := bytes_reads w3 5 (T (120 :: 60 :: (a0.data.toList ++ [62]))) (by omega)
          have h := parse_calls 300 _ (grownCap w3 (T (120 :: 60 :: (a0.data.toList ++ [62]))).size 0 5) (bytesOf (T (120 :: 60 :: (a0.data.toList ++ [62])))) t er pl _ (by rw [bytesOf_length]; exact hC) (by rw [bytesOf_length]; exact grownCap_ge ..) (HG.out.below hb5) hP
          rw [bytesOf_length] at h
          refine h.mono ?_
          rintro e w' ⟨A', c', he, hc, hC', hb6⟩
          exact ⟨A', c', he, hc, hC', below_then hb5 hb5.size hb6⟩
        by_cases hr : r = 0
        · rw [if_pos hr] at PN
          have hq2 : (r == 0) = true := beq_iff_eq.mpr hr
          have PC := fun w3 X hX => hgo [] 50 1 w3 X hX PN
          rw [show ([] : List NodeD).length = 0 from rfl] at PC
          clear hr hgo PN
          go_wp2_with (first | (go_at_call 23; refine (SC _).mono ?_; rintro e w2 ⟨rfl, hb2⟩; have hb2' := below_then hB.out hB.out.size hb2) | (go_at_call 22; refine (KC _).mono ?_; rintro e w3 ⟨rfl, hd3⟩; have hb3 := below_then hb2' hb2'.size hd3.below))
          rw [Lib.run_convert_string_bytes _ 9 44 5 _ Tryz.underlying9 Tryz.underlying44 Tryz.underlying5]
          simp only [Result.andThen]
          rw [Oper.upon_value]
          have hX := strOf3 a0
          generalize (⟨#[120, 60]⟩ : ByteArray) ++ a0 ++ (⟨#[62]⟩ : ByteArray) = X at *
          have PX := PC w3 X hX hb3
          generalize Lib.bytesWorld w3 5 X = wX at *
          generalize grownCap w3 X.size 0 5 = cX at *
          generalize w3.heap.size = gX at *
          clear PC hX
          go_wp2_with (first | (go_at_call 19; refine PX.mono ?_; rintro e w4 ⟨A4, c4, rfl, hc4, hC4, hb4⟩) | (go_at_call 13; refine (WC _ hb4).mono ?_; rintro e w5 ⟨rfl, hb5⟩))
          go_ret
          exact ⟨rfl, below_then hb4 hb4.size hb5⟩
        · rw [if_neg hr] at PN
          have hq2 : (r == 0) = false := beq_eq_false_iff_ne.mpr hr
          have PC := fun w3 X hX => hgo (tX (smallS a0)) 0 0 w3 X hX PN
          rw [show (tX (smallS a0)).length = 3 from rfl] at PC
          clear hr hgo PN
          go_wp2_with (first | (go_at_call 23; refine (SC _).mono ?_; rintro e w2 ⟨rfl, hb2⟩; have hb2' := below_then hB.out hB.out.size hb2) | (go_at_call 22; refine (KC _).mono ?_; rintro e w3 ⟨rfl, hd3⟩; have hb3 := below_then hb2' hb2'.size hd3.below))
          rw [Lib.run_convert_string_bytes _ 9 44 5 _ Tryz.underlying9 Tryz.underlying44 Tryz.underlying5]
          simp only [Result.andThen]
          rw [Oper.upon_value]
          have hX := strOf3 a0
          generalize (⟨#[120, 60]⟩ : ByteArray) ++ a0 ++ (⟨#[62]⟩ : ByteArray) = X at *
          have PX := PC w3 X hX hb3
          generalize Lib.bytesWorld w3 5 X = wX at *
          generalize grownCap w3 X.size 0 5 = cX at *
          generalize w3.heap.size = gX at *
          clear PC hX
          go_upto_region 12 with (go_at_call 19; refine PX.mono ?_; rintro e w4 ⟨A4, c4, rfl, hc4, hC4, hb4⟩)
          obtain ⟨ad, B2, b2, B5, b5, rfl, y0, y1, y2, y3, y4, y5, l2, g2, l5, g5⟩ := at_T38 hC4 2 (by decide) (by decide)
          rw [show (2 : Int).toNat * 6 = 12 from rfl] at y1 y5
          rw [show (ad.add 12).block = ad.block from rfl, show (ad.add 12).off = ad.off + 12 from rfl] at y1 y5
          rw [show (rd_T38 (tX (smallS a0)) 2).f1 = smallS a0 from rfl] at y1
          rw [show ((rd_T38 (tX (smallS a0)) 2).f5.length) = 0 from rfl] at y5
          clear y0 y2 y3 y4 l2 g2 l5 g5
          refine start_ (n := 28) (S := fun w' => w'.cell? ⟨ad.block, ad.off + 12 + 1, none⟩ = some (.string (smallS a0)) ∧ w'.cell? ⟨ad.block, ad.off + 12 + 5, none⟩ = some (.slice B5 0 b5)) (ds := []) #[false, false, false, false, false, false, false, false, false, false, false, false, false, false, false, false, false, false, false, false, false, false, false, false, false, false, false, false] (by kernel_rfl) rfl rfl ⟨y1, y5⟩ (fun hHeld => ?_)
          refine pure_ (i := 0) (N := some 64) (v := ?_) (a' := ?_) #[true, false, false, false, false, false, false, false, false, false, false, false, false, false, false, false, false, false, false, false, false, false, false, false, false, false, false, false] rfl rfl (by kernel_rfl) (fun _ _ _ h => h) (Or.inl ⟨by rfl, ?_⟩) ?_ ?_
          rotate_left
          · intro w'
            go_simp
            with_reducible rfl
          rotate_left
          · simp only [Act.put, List.setIfInBounds_toArray, List.set_cons_zero, List.set_cons_succ, i64_w, i32_w]
            rfl
          refine pure_ (i := 1) (N := some 65) (v := ?_) (a' := ?_) #[true, true, false, false, false, false, false, false, false, false, false, false, false, false, false, false, false, false, false, false, false, false, false, false, false, false, false, false] rfl rfl (by kernel_rfl) (fun _ _ _ h => h) (Or.inl ⟨by rfl, ?_⟩) ?_ ?_
          rotate_left
          · intro w'
            go_simp
            with_reducible rfl
          rotate_left
          · simp only [Act.put, List.setIfInBounds_toArray, List.set_cons_zero, List.set_cons_succ, i64_w, i32_w]
            rfl
          refine pure_ (i := 2) (N := some 66) (v := ?_) (a' := ?_) #[true, true, true, false, false, false, false, false, false, false, false, false, false, false, false, false, false, false, false, false, false, false, false, false, false, false, false, false] rfl rfl (by kernel_rfl) (fun _ _ _ h => h) (Or.inl ⟨by rfl, ?_⟩) ?_ ?_
          rotate_left
          · intro w'
            go_simp
            with_reducible rfl
          rotate_left
          · simp only [Act.put, List.setIfInBounds_toArray, List.set_cons_zero, List.set_cons_succ, i64_w, i32_w]
            rfl
          refine pure_ (i := 3) (N := some 67) (v := ?_) (a' := ?_) #[true, true, true, true, false, false, false, false, false, false, false, false, false, false, false, false, false, false, false, false, false, false, false, false, false, false, false, false] rfl rfl (by kernel_rfl) (fun _ _ _ h => h) (Or.inl ⟨by rfl, ?_⟩) ?_ ?_
          rotate_left
          · intro w'
            go_simp
            with_reducible rfl
          rotate_left
          · simp only [Act.put, List.setIfInBounds_toArray, List.set_cons_zero, List.set_cons_succ, i64_w, i32_w]
            rfl
          refine pure_ (i := 4) (N := some 68) (v := ?_) (a' := ?_) #[true, true, true, true, true, false, false, false, false, false, false, false, false, false, false, false, false, false, false, false, false, false, false, false, false, false, false, false] rfl rfl (by kernel_rfl) (fun _ _ _ h => h) (Or.inl ⟨by rfl, ?_⟩) ?_ ?_
          rotate_left
          · intro w'
            go_simp
            with_reducible rfl
          rotate_left
          · simp only [Act.put, List.setIfInBounds_toArray, List.set_cons_zero, List.set_cons_succ, i64_w, i32_w]
            rfl
          refine pure_ (i := 5) (N := some 69) (v := ?_) (a' := ?_) #[true, true, true, true, true, true, false, false, false, false, false, false, false, false, false, false, false, false, false, false, false, false, false, false, false, false, false, false] rfl rfl (by kernel_rfl) (fun _ _ _ h => h) (Or.inl ⟨by rfl, ?_⟩) ?_ ?_
          rotate_left
          · intro w'
            go_simp
            with_reducible rfl
          rotate_left
          · simp only [Act.put, List.setIfInBounds_toArray, List.set_cons_zero, List.set_cons_succ, i64_w, i32_w]
            rfl
          refine pure_ (i := 6) (N := some 70) (v := ?_) (a' := ?_) #[true, true, true, true, true, true, true, false, false, false, false, false, false, false, false, false, false, false, false, false, false, false, false, false, false, false, false, false] rfl rfl (by kernel_rfl) (fun _ _ _ h => h) (Or.inl ⟨by rfl, ?_⟩) ?_ ?_
          rotate_left
          · intro w'
            go_simp
            with_reducible rfl
          rotate_left
          · simp only [Act.put, List.setIfInBounds_toArray, List.set_cons_zero, List.set_cons_succ, i64_w, i32_w]
            rfl
          refine pure_ (i := 7) (N := some 71) (v := ?_) (a' := ?_) #[true, true, true, true, true, true, true, true, false, false, false, false, false, false, false, false, false, false, false, false, false, false, false, false, false, false, false, false] rfl rfl (by kernel_rfl) (fun _ _ _ h => h) (Or.inl ⟨by rfl, ?_⟩) ?_ ?_
          rotate_left
          · intro w'
            go_simp
            with_reducible rfl
          rotate_left
          · simp only [Act.put, List.setIfInBounds_toArray, List.set_cons_zero, List.set_cons_succ, i64_w, i32_w]
            rfl
          refine pure_ (i := 8) (N := some 72) (v := ?_) (a' := ?_) #[true, true, true, true, true, true, true, true, true, false, false, false, false, false, false, false, false, false, false, false, false, false, false, false, false, false, false, false] rfl rfl (by kernel_rfl) (fun _ _ _ h => h) (Or.inl ⟨by rfl, ?_⟩) ?_ ?_
          rotate_left
          · intro w'
            go_simp
            with_reducible rfl
          rotate_left
          · simp only [Act.put, List.setIfInBounds_toArray, List.set_cons_zero, List.set_cons_succ, i64_w, i32_w]
            rfl
          refine pure_ (i := 9) (N := some 73) (v := ?_) (a' := ?_) #[true, true, true, true, true, true, true, true, true, true, false, false, false, false, false, false, false, false, false, false, false, false, false, false, false, false, false, false] rfl rfl (by kernel_rfl) (fun _ _ _ h => h) (Or.inl ⟨by rfl, ?_⟩) ?_ ?_
          rotate_left
          · intro w'
            go_simp
            with_reducible rfl
          rotate_left
          · simp only [Act.put, List.setIfInBounds_toArray, List.set_cons_zero, List.set_cons_succ, i64_w, i32_w]
            rfl
          refine pure_ (i := 10) (N := some 74) (v := ?_) (a' := ?_) #[true, true, true, true, true, true, true, true, true, true, true, false, false, false, false, false, false, false, false, false, false, false, false, false, false, false, false, false] rfl rfl (by kernel_rfl) (fun _ _ _ h => h) (Or.inl ⟨by rfl, ?_⟩) ?_ ?_
          rotate_left
          · intro w'
            go_simp
            with_reducible rfl
          rotate_left
          · simp only [Act.put, List.setIfInBounds_toArray, List.set_cons_zero, List.set_cons_succ, i64_w, i32_w]
            rfl
          refine pure_ (i := 12) (N := some 76) (v := ?_) (a' := ?_) #[true, true, true, true, true, true, true, true, true, true, true, false, true, false, false, false, false, false, false, false, false, false, false, false, false, false, false, false] rfl rfl (by kernel_rfl) (fun _ _ _ h => h) (Or.inl ⟨by rfl, ?_⟩) ?_ ?_
          rotate_left
          · intro w'
            go_simp
            with_reducible rfl
          rotate_left
          · simp only [Act.put, List.setIfInBounds_toArray, List.set_cons_zero, List.set_cons_succ, i64_w, i32_w]
            rfl
          refine take_ (i := 11) (N := some 75) (v := ?_) (a' := ?_) #[true, true, true, true, true, true, true, true, true, true, true, true, true, false, false, false, false, false, false, false, false, false, false, false, false, false, false, false] rfl rfl (by kernel_rfl) (fun _ _ _ h => h) (Or.inl ⟨by rfl, ?_⟩) hHeld ?_ ?_
          rotate_left
          · rintro w' ⟨s0, s1⟩
            go_simp
            with_reducible rfl
          rotate_left
          · simp only [Act.put, List.setIfInBounds_toArray, List.set_cons_zero, List.set_cons_succ, i64_w, i32_w]
            rfl
          refine one_ (i := 13) (N := some 77) #[true, true, true, true, true, true, true, true, true, true, true, true, true, true, false, false, false, false, false, false, false, false, false, false, false, false, false, false] rfl rfl (by kernel_rfl) (by decide) (fun K hK => ?_)
          refine goes_ Tryz.func23 (by kernel_rfl) rfl #[.string a0] (by rfl) rfl rfl (by simp only [List.map_toArray, List.map_cons, List.map_nil]; rfl) ?_
          with_reducible refine (SC _).mono ?_
          rintro e w5 ⟨rfl, hb5⟩
          refine ⟨_, rfl, ?_⟩
          have hb6 := below_then (below_drew1 hb4) hb4.size hb5
          refine hK.out _ _ ⟨(pw_cell_below hb5 (pw_cell_below (below_drew1 (Below.refl _ _)) y1)), (pw_cell_below hb5 (pw_cell_below (below_drew1 (Below.refl _ _)) y5))⟩ (fun hHeld => ?_)
          clear hK K
          refine norm_ (a' := ?_) ?_ ?_
          rotate_left
          · show Act.put _ (some 77) _ = _
            simp only [Act.put, List.setIfInBounds_toArray, List.set_cons_zero, List.set_cons_succ, i64_w, i32_w]
            rfl
          refine pure_ (i := 14) (N := some 78) (v := ?_) (a' := ?_) #[true, true, true, true, true, true, true, true, true, true, true, true, true, true, true, false, false, false, false, false, false, false, false, false, false, false, false, false] rfl rfl (by kernel_rfl) (fun _ _ _ h => h) (Or.inl ⟨by rfl, ?_⟩) ?_ ?_
          rotate_left
          · intro w'
            go_simp
            with_reducible rfl
          rotate_left
          · simp only [Act.put, List.setIfInBounds_toArray, List.set_cons_zero, List.set_cons_succ, i64_w, i32_w]
            rfl
          refine pure_ (i := 15) (N := some 79) (v := ?_) (a' := ?_) #[true, true, true, true, true, true, true, true, true, true, true, true, true, true, true, true, false, false, false, false, false, false, false, false, false, false, false, false] rfl rfl (by kernel_rfl) (fun _ _ _ h => h) (Or.inl ⟨by rfl, ?_⟩) ?_ ?_
          rotate_left
          · intro w'
            go_simp
            with_reducible rfl
          rotate_left
          · simp only [Act.put, List.setIfInBounds_toArray, List.set_cons_zero, List.set_cons_succ, i64_w, i32_w]
            rfl
          refine pure_ (i := 16) (N := some 80) (v := ?_) (a' := ?_) #[true, true, true, true, true, true, true, true, true, true, true, true, true, true, true, true, true, false, false, false, false, false, false, false, false, false, false, false] rfl rfl (by kernel_rfl) (fun _ _ _ h => h) (Or.inl ⟨by rfl, ?_⟩) ?_ ?_
          rotate_left
          · intro w'
            go_simp
            with_reducible rfl
          rotate_left
          · simp only [Act.put, List.setIfInBounds_toArray, List.set_cons_zero, List.set_cons_succ, i64_w, i32_w]
            rfl
          refine pure_ (i := 17) (N := some 81) (v := ?_) (a' := ?_) #[true, true, true, true, true, true, true, true, true, true, true, true, true, true, true, true, true, true, false, false, false, false, false, false, false, false, false, false] rfl rfl (by kernel_rfl) (fun _ _ _ h => h) (Or.inl ⟨by rfl, ?_⟩) ?_ ?_
          rotate_left
          · intro w'
            go_simp
            with_reducible rfl
          rotate_left
          · simp only [Act.put, List.setIfInBounds_toArray, List.set_cons_zero, List.set_cons_succ, i64_w, i32_w]
            rfl
          refine pure_ (i := 18) (N := some 82) (v := ?_) (a' := ?_) #[true, true, true, true, true, true, true, true, true, true, true, true, true, true, true, true, true, true, true, false, false, false, false, false, false, false, false, false] rfl rfl (by kernel_rfl) (fun _ _ _ h => h) (Or.inl ⟨by rfl, ?_⟩) ?_ ?_
          rotate_left
          · intro w'
            go_simp
            with_reducible rfl
          rotate_left
          · simp only [Act.put, List.setIfInBounds_toArray, List.set_cons_zero, List.set_cons_succ, i64_w, i32_w]
            rfl
          refine pure_ (i := 19) (N := some 83) (v := ?_) (a' := ?_) #[true, true, true, true, true, true, true, true, true, true, true, true, true, true, true, true, true, true, true, true, false, false, false, false, false, false, false, false] rfl rfl (by kernel_rfl) (fun _ _ _ h => h) (Or.inl ⟨by rfl, ?_⟩) ?_ ?_
          rotate_left
          · intro w'
            go_simp
            with_reducible rfl
          rotate_left
          · simp only [Act.put, List.setIfInBounds_toArray, List.set_cons_zero, List.set_cons_succ, i64_w, i32_w]
            rfl
          refine take_ (i := 20) (N := some 84) (v := ?_) (a' := ?_) #[true, true, true, true, true, true, true, true, true, true, true, true, true, true, true, true, true, true, true, true, true, false, false, false, false, false, false, false] rfl rfl (by kernel_rfl) (fun _ _ _ h => h) (Or.inl ⟨by rfl, ?_⟩) hHeld ?_ ?_
          rotate_left
          · rintro w' ⟨s0, s1⟩
            go_simp
            with_reducible rfl
          rotate_left
          · simp only [Act.put, List.setIfInBounds_toArray, List.set_cons_zero, List.set_cons_succ, i64_w, i32_w]
            rfl
          refine pure_ (i := 21) (N := some 85) (v := ?_) (a' := ?_) #[true, true, true, true, true, true, true, true, true, true, true, true, true, true, true, true, true, true, true, true, true, true, false, false, false, false, false, false] rfl rfl (by kernel_rfl) (fun _ _ _ h => h) (Or.inl ⟨by rfl, ?_⟩) ?_ ?_
          rotate_left
          · intro w'
            go_simp
            with_reducible rfl
          rotate_left
          · simp only [Act.put, List.setIfInBounds_toArray, List.set_cons_zero, List.set_cons_succ, i64_w, i32_w]
            rfl
          refine pure_ (i := 22) (N := some 86) (v := ?_) (a' := ?_) #[true, true, true, true, true, true, true, true, true, true, true, true, true, true, true, true, true, true, true, true, true, true, true, false, false, false, false, false] rfl rfl (by kernel_rfl) (fun _ _ _ h => h) (Or.inl ⟨by rfl, ?_⟩) ?_ ?_
          rotate_left
          · intro w'
            go_simp
            with_reducible rfl
          rotate_left
          · simp only [Act.put, List.setIfInBounds_toArray, List.set_cons_zero, List.set_cons_succ, i64_w, i32_w]
            rfl
          refine pure_ (i := 23) (N := some 87) (v := ?_) (a' := ?_) #[true, true, true, true, true, true, true, true, true, true, true, true, true, true, true, true, true, true, true, true, true, true, true, true, false, false, false, false] rfl rfl (by kernel_rfl) (fun _ _ _ h => h) (Or.inl ⟨by rfl, ?_⟩) ?_ ?_
          rotate_left
          · intro w'
            go_simp
            with_reducible rfl
          rotate_left
          · simp only [Act.put, List.setIfInBounds_toArray, List.set_cons_zero, List.set_cons_succ, i64_w, i32_w]
            rfl
          refine pure_ (i := 24) (N := some 88) (v := ?_) (a' := ?_) #[true, true, true, true, true, true, true, true, true, true, true, true, true, true, true, true, true, true, true, true, true, true, true, true, true, false, false, false] rfl rfl (by kernel_rfl) (fun _ _ _ h => h) (Or.inl ⟨by rfl, ?_⟩) ?_ ?_
          rotate_left
          · intro w'
            go_simp
            with_reducible rfl
          rotate_left
          · simp only [Act.put, List.setIfInBounds_toArray, List.set_cons_zero, List.set_cons_succ, i64_w, i32_w]
            rfl
          refine one_ (i := 25) (N := some 89) #[true, true, true, true, true, true, true, true, true, true, true, true, true, true, true, true, true, true, true, true, true, true, true, true, true, true, false, false] rfl rfl (by kernel_rfl) (by decide) (fun K hK => ?_)
          refine goes_ Tryz.func13 (by kernel_rfl) rfl #[] (by rfl) rfl rfl (by simp only [List.map_toArray, List.map_cons, List.map_nil]; try rfl) ?_
          with_reducible refine (WC _ hb6).mono ?_
          rintro e w7 ⟨rfl, hb7⟩
          refine ⟨_, rfl, ?_⟩
          refine hK.out _ _ ⟨(pw_cell_below hb7 hHeld.1), (pw_cell_below hb7 hHeld.2)⟩ (fun hHeld => ?_)
          clear hK K
          refine norm_ (a' := ?_) ?_ ?_
          rotate_left
          · show Act.put _ (some 89) _ = _
            simp only [Act.put, List.setIfInBounds_toArray, List.set_cons_zero, List.set_cons_succ, i64_w, i32_w]
            rfl
          refine pure_ (i := 26) (N := some 90) (v := ?_) (a' := ?_) #[true, true, true, true, true, true, true, true, true, true, true, true, true, true, true, true, true, true, true, true, true, true, true, true, true, true, true, false] rfl rfl (by kernel_rfl) (fun _ _ _ h => h) (Or.inl ⟨by rfl, ?_⟩) ?_ ?_
          rotate_left
          · intro w'
            go_simp
            with_reducible rfl
          rotate_left
          · simp only [Act.put, List.setIfInBounds_toArray, List.set_cons_zero, List.set_cons_succ, i64_w, i32_w]
            rfl
          refine pure_ (i := 27) (N := some 2) (v := ?_) (a' := ?_) #[true, true, true, true, true, true, true, true, true, true, true, true, true, true, true, true, true, true, true, true, true, true, true, true, true, true, true, true] rfl rfl (by kernel_rfl) (fun _ _ _ h => h) (Or.inl ⟨by rfl, ?_⟩) ?_ ?_
          rotate_left
          · intro w'
            go_simp
            with_reducible rfl
          rotate_left
          · simp only [Act.put, List.setIfInBounds_toArray, List.set_cons_zero, List.set_cons_succ, i64_w, i32_w]
            rfl
          refine done_ (by kernel_rfl) ?_
          go_wp2_with fail
          go_ret
          exact ⟨rfl, below_then hb6 hb6.size hb7⟩
end Go.Proofs.YtpfhgolamlnhiaaGreatDoor.Pure
