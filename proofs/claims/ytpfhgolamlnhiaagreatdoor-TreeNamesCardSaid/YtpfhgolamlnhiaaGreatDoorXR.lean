-- Written by wip/tools/px.py for this claim, by way of the kit's print of the translation. Lean checks it.
import Derived.Test.YtpfhgolamlnhiaaGreatDoorXT
namespace Go.Proofs.YtpfhgolamlnhiaaGreatDoor.XR
open Go.RowKit Go.Proofs.YtpfhgolamlnhiaaGreatDoor Go.Proofs.YtpfhgolamlnhiaaGreatDoor.XT Go.Proofs.YtpfhgolamlnhiaaGreatDoorW.PrintWords Go.Proofs.YtpfhgolamlnhiaaGreatDoorW.PrintLast Go.Proofs.YtpfhgolamlnhiaaGreatDoorW.PrintMore
attribute [local go_sem] max2_int min2_int max_two min_two max_three min_three max_four min_four   -- for this text's walks alone
set_option linter.unusedVariables false
set_option linter.unusedSimpArgs false

end Go.Proofs.YtpfhgolamlnhiaaGreatDoor.XR

namespace Go.Proofs.YtpfhgolamlnhiaaGreatDoor.XR
open Go.RowKit Go.Proofs.YtpfhgolamlnhiaaGreatDoor Go.Proofs.YtpfhgolamlnhiaaGreatDoor.XT Go.Proofs.YtpfhgolamlnhiaaGreatDoorW.PrintWords Go.Proofs.YtpfhgolamlnhiaaGreatDoorW.PrintLast Go.Proofs.YtpfhgolamlnhiaaGreatDoorW.PrintMore
attribute [local go_sem] max2_int min2_int max_two min_two max_three min_three max_four min_four   -- for this text's walks alone
set_option linter.unusedVariables false
set_option linter.unusedSimpArgs false

/-! ### selvedgeref05_among: function 50 -/
mutual
def selvedgeref05_among.l0 : Nat → ByteArray → ByteArray → Int → Option (Bool)
 | 0, _, _, _ => none
 | k + 1, x0, x1, x5 => if x5 < (x1.size : Int) then (selvedgeref05_among.l1 k x0 x1 x5 x5) else (some false)
def selvedgeref05_among.l1 : Nat → ByteArray → ByteArray → Int → Int → Option (Bool)
 | 0, _, _, _, _ => none
 | k + 1, x0, x1, x5, x6 => if x6 < (x1.size : Int) then (if 0 ≤ x6 then (if (bt x1 x6) = 32 then (if 0 ≤ x5 then (if x5 ≤ x6 then (if x6 ≤ (x1.size : Int) then (if (x1.extract (x5 : Int).toNat (x6 : Int).toNat).toList = x0.toList then (some true) else (selvedgeref05_among.l0 k x0 x1 (wrap64 (x6 + 1)))) else (none)) else (none)) else (none)) else (selvedgeref05_among.l1 k x0 x1 x5 (wrap64 (x6 + 1)))) else (none)) else (if 0 ≤ x5 then (if x5 ≤ x6 then (if x6 ≤ (x1.size : Int) then (if (x1.extract (x5 : Int).toNat (x6 : Int).toNat).toList = x0.toList then (some true) else (selvedgeref05_among.l0 k x0 x1 (wrap64 (x6 + 1)))) else (none)) else (none)) else (none))
end
def selvedgeref05_among.f (k : Nat) (a0 : ByteArray) (a1 : ByteArray) : Option (Bool) := selvedgeref05_among.l0 k a0 a1 0
theorem selvedgeref05_among.mono_l : ∀ k, (∀ y0 y1 y2, LeO (selvedgeref05_among.l0 k y0 y1 y2) (selvedgeref05_among.l0 (k + 1) y0 y1 y2)) ∧ (∀ y0 y1 y2 y3, LeO (selvedgeref05_among.l1 k y0 y1 y2 y3) (selvedgeref05_among.l1 (k + 1) y0 y1 y2 y3))
 | 0 => ⟨fun _ _ _ r h => by simp [selvedgeref05_among.l0] at h, fun _ _ _ _ r h => by simp [selvedgeref05_among.l1] at h⟩
 | k + 1 => by
  obtain ⟨ih0, ih1⟩ := selvedgeref05_among.mono_l k
  refine ⟨?_, ?_⟩
  ·intro y0 y1 y2
   unfold selvedgeref05_among.l0
   repeat' first
   | (with_reducible exact ih0 _ _ _)
   | (with_reducible exact ih1 _ _ _ _)
   | (with_reducible exact LeO.refl _)
   | (with_reducible exact LeO.none _)
   | (with_reducible refine LeO.ite ?_ ?_)
   | (with_reducible refine LeO.bind ?_ (fun _ => ?_))
   | exact ih0 _ _ _
   | exact ih1 _ _ _ _
   | exact LeO.none _
   | refine LeO.ite ?_ ?_
   | refine LeO.bind ?_ (fun _ => ?_)
  ·intro y0 y1 y2 y3
   unfold selvedgeref05_among.l1
   repeat' first
   | (with_reducible exact ih0 _ _ _)
   | (with_reducible exact ih1 _ _ _ _)
   | (with_reducible exact LeO.refl _)
   | (with_reducible exact LeO.none _)
   | (with_reducible refine LeO.ite ?_ ?_)
   | (with_reducible refine LeO.bind ?_ (fun _ => ?_))
   | exact ih0 _ _ _
   | exact ih1 _ _ _ _
   | exact LeO.none _
   | refine LeO.ite ?_ ?_
   | refine LeO.bind ?_ (fun _ => ?_)
theorem selvedgeref05_among.mono : ∀ a0 a1 k, LeO (selvedgeref05_among.f k a0 a1) (selvedgeref05_among.f (k + 1) a0 a1) := by
 intro a0 a1 k
 obtain ⟨ih0, ih1⟩ := selvedgeref05_among.mono_l k
 unfold selvedgeref05_among.f
 repeat' first
   | (with_reducible exact ih0 _ _ _)
   | (with_reducible exact ih1 _ _ _ _)
   | (with_reducible exact LeO.refl _)
   | (with_reducible exact LeO.none _)
   | (with_reducible refine LeO.ite ?_ ?_)
   | (with_reducible refine LeO.bind ?_ (fun _ => ?_))
   | exact ih0 _ _ _
   | exact ih1 _ _ _ _
   | exact LeO.none _
   | refine LeO.ite ?_ ?_
   | refine LeO.bind ?_ (fun _ => ?_)
set_option maxHeartbeats 80000000 in
set_option maxRecDepth 100000 in
theorem selvedgeref05_among.calls (k : Nat) (a0 : ByteArray) (a1 : ByteArray) (r : Bool) (w : World) (h : selvedgeref05_among.f k a0 a1 = some r) :
  Calls Tryz.prog 50 #[.string a0, .string a1] w fun e w' => e = .returned (.bool r) ∧ Drawn0 w w' := by
 have H : (selvedgeref05_among.l0 k a0 a1 0) = some r := h
 clear h
 have H' := Aside0.mk H
 clear H
 go_enter Tryz.func50, Tryz.ntmps50
 go_wp2
 go_loopg [5] k (fun kq v5 w' => ∃ (x5_1 : Int), v5 = .int .i64 x5_1 ∧ Aside0 (selvedgeref05_among.l0 kq a0 a1 x5_1 = some r) ∧ Aside0 (kq ≤ k) ∧ Drawn0 w w')
 case atStart => exact ⟨(0), (by first | rfl | (simp; done) | (simp [*]; done) | (simp [bne, List.isEmpty_iff]; done) | (simp [bne, List.isEmpty_iff, *]; done) | (simp [bne]; rfl)), H', ⟨Nat.le_refl _⟩, by repeat (first | exact Drawn0.refl _ | apply Drawn0.step)⟩
 case round =>
  clear H'
  try clear p2
  obtain ⟨x5_1, rfl, HA, HK1, ⟨m1, rfl⟩⟩ := hrel
  cases gk with
  | zero => exact absurd HA.out (by simp [selvedgeref05_among.l0])
  | succ k1 =>
   have H := HA.out
   clear HA
   simp only [selvedgeref05_among.l0] at H
   by_cases c3 : x5_1 < (a1.size : Int)
   ·rw [if_pos c3] at H
    have c3b0 : decide (x5_1 < (a1.size : Int)) = true := decide_eq_true c3
    clear c3
    have H' := Aside0.mk H
    clear H
    go_wp2
    go_loopg [6] k1 (fun kq v6 w' => ∃ (x6_2 : Int), v6 = .int .i64 x6_2 ∧ Aside0 (selvedgeref05_among.l1 kq a0 a1 x5_1 x6_2 = some r) ∧ Aside0 (kq ≤ k1) ∧ Drawn0 w w')
    case atStart => exact ⟨(x5_1), (by first | rfl | (simp; done) | (simp [*]; done) | (simp [bne, List.isEmpty_iff]; done) | (simp [bne, List.isEmpty_iff, *]; done) | (simp [bne]; rfl)), H', ⟨Nat.le_refl _⟩, by repeat (first | exact Drawn0.refl _ | apply Drawn0.step)⟩
    case round =>
     clear H'
     try clear p2
     try clear c3
     try clear c3b0
     try clear p2
     obtain ⟨x6_2, rfl, HA, HK2, ⟨m2, rfl⟩⟩ := hrel
     cases gk with
     | zero => exact absurd HA.out (by simp [selvedgeref05_among.l1])
     | succ k2 =>
      have H := HA.out
      clear HA
      simp only [selvedgeref05_among.l1] at H
      by_cases c4 : x6_2 < (a1.size : Int)
      ·rw [if_pos c4] at H
       have c4b0 : decide (x6_2 < (a1.size : Int)) = true := decide_eq_true c4
       clear c4
       by_cases c5 : 0 ≤ x6_2
       ·rw [if_pos c5] at H
        have c5b0 : decide (0 ≤ x6_2) = true := decide_eq_true c5
        clear c5
        by_cases c7 : (bt a1 x6_2) = 32
        ·rw [if_pos c7] at H
         have c7b0 : ((bt a1 x6_2) == 32) = true := beq_iff_eq.mpr c7
         have c7b1 : ((bt a1 x6_2) != 32) = false := bne_eq_false_iff_eq.mpr c7
         clear c7
         by_cases c8 : 0 ≤ x5_1
         ·rw [if_pos c8] at H
          have c8b0 := eq_true c8
          have c8b1 : decide (0 ≤ x5_1) = true := decide_eq_true c8
          clear c8
          by_cases c9 : x5_1 ≤ x6_2
          ·rw [if_pos c9] at H
           have c9b0 := eq_true c9
           have c9b1 : decide (x5_1 ≤ x6_2) = true := decide_eq_true c9
           clear c9
           by_cases c10 : x6_2 ≤ (a1.size : Int)
           ·rw [if_pos c10] at H
            have c10b0 := eq_true c10
            have c10b1 : decide (x6_2 ≤ (a1.size : Int)) = true := decide_eq_true c10
            clear c10
            by_cases c11 : (a1.extract (x5_1 : Int).toNat (x6_2 : Int).toNat).toList = a0.toList
            ·rw [if_pos c11] at H
             have c11b0 : ((a1.extract (x5_1 : Int).toNat (x6_2 : Int).toNat).toList == a0.toList) = true := beq_iff_eq.mpr c11
             (try simp only [Int.toNat_natCast] at c11b0)
             have c11b1 : ((a1.extract (x5_1 : Int).toNat (x6_2 : Int).toNat).toList != a0.toList) = false := bne_eq_false_iff_eq.mpr c11
             (try simp only [Int.toNat_natCast] at c11b1)
             clear c11
             obtain rfl := Option.some.inj H
             have p6 : 0 ≤ (x6_2 : Int) := of_decide_eq_true (by first | (with_reducible assumption) | assumption)
             have q6 : x6_2 < (a1.size : Int) := of_decide_eq_true (by first | (with_reducible assumption) | assumption)
             have hx6 := bt_at a1 x6_2
             replace p6 := eq_true p6
             replace q6 := eq_true q6
             go_wp2
             go_ret
             exact ⟨by first | rfl | (simp; done) | (simp [*]; done) | (simp [bne, List.isEmpty_iff]; done) | (simp [bne, List.isEmpty_iff, *]; done) | (simp [bne]; rfl), by repeat (first | exact Drawn0.refl _ | apply Drawn0.step)⟩
            ·rw [if_neg c11] at H
             have c11b0 : ((a1.extract (x5_1 : Int).toNat (x6_2 : Int).toNat).toList == a0.toList) = false := beq_eq_false_iff_ne.mpr c11
             (try simp only [Int.toNat_natCast] at c11b0)
             have c11b1 : ((a1.extract (x5_1 : Int).toNat (x6_2 : Int).toNat).toList != a0.toList) = true := bne_iff_ne.mpr c11
             (try simp only [Int.toNat_natCast] at c11b1)
             have H' := Aside0.mk H
             clear H
             have p6 : 0 ≤ (x6_2 : Int) := of_decide_eq_true (by first | (with_reducible assumption) | assumption)
             have q6 : x6_2 < (a1.size : Int) := of_decide_eq_true (by first | (with_reducible assumption) | assumption)
             have hx6 := bt_at a1 x6_2
             replace p6 := eq_true p6
             replace q6 := eq_true q6
             go_wp2
             go_roundg k2
             case measure => have := HK1.out; have := HK2.out; omega
             case rel => exact ⟨(wrap64 (x6_2 + 1)), (by first | rfl | (simp; done) | (simp [*]; done) | (simp [bne, List.isEmpty_iff]; done) | (simp [bne, List.isEmpty_iff, *]; done) | (simp [bne]; rfl)), H', ⟨by have := HK1.out; have := HK2.out; omega⟩, by repeat (first | exact Drawn0.refl _ | apply Drawn0.step)⟩
           ·rw [if_neg c10] at H
            exact absurd H (by simp)
          ·rw [if_neg c9] at H
           exact absurd H (by simp)
         ·rw [if_neg c8] at H
          exact absurd H (by simp)
        ·rw [if_neg c7] at H
         have c7b0 : ((bt a1 x6_2) == 32) = false := beq_eq_false_iff_ne.mpr c7
         have c7b1 : ((bt a1 x6_2) != 32) = true := bne_iff_ne.mpr c7
         have H' := Aside0.mk H
         clear H
         have p6 : 0 ≤ (x6_2 : Int) := of_decide_eq_true (by first | (with_reducible assumption) | assumption)
         have q6 : x6_2 < (a1.size : Int) := of_decide_eq_true (by first | (with_reducible assumption) | assumption)
         have hx6 := bt_at a1 x6_2
         replace p6 := eq_true p6
         replace q6 := eq_true q6
         go_wp2
         go_roundg k2
         case measure => have := HK1.out; have := HK2.out; omega
         case rel => exact ⟨(wrap64 (x6_2 + 1)), (by first | rfl | (simp; done) | (simp [*]; done) | (simp [bne, List.isEmpty_iff]; done) | (simp [bne, List.isEmpty_iff, *]; done) | (simp [bne]; rfl)), H', ⟨by have := HK1.out; have := HK2.out; omega⟩, by repeat (first | exact Drawn0.refl _ | apply Drawn0.step)⟩
       ·rw [if_neg c5] at H
        exact absurd H (by simp)
      ·rw [if_neg c4] at H
       have c4b0 : decide (x6_2 < (a1.size : Int)) = false := decide_eq_false c4
       clear c4
       by_cases c12 : 0 ≤ x5_1
       ·rw [if_pos c12] at H
        have c12b0 := eq_true c12
        have c12b1 : decide (0 ≤ x5_1) = true := decide_eq_true c12
        clear c12
        by_cases c13 : x5_1 ≤ x6_2
        ·rw [if_pos c13] at H
         have c13b0 := eq_true c13
         have c13b1 : decide (x5_1 ≤ x6_2) = true := decide_eq_true c13
         clear c13
         by_cases c14 : x6_2 ≤ (a1.size : Int)
         ·rw [if_pos c14] at H
          have c14b0 := eq_true c14
          have c14b1 : decide (x6_2 ≤ (a1.size : Int)) = true := decide_eq_true c14
          clear c14
          by_cases c15 : (a1.extract (x5_1 : Int).toNat (x6_2 : Int).toNat).toList = a0.toList
          ·rw [if_pos c15] at H
           have c15b0 : ((a1.extract (x5_1 : Int).toNat (x6_2 : Int).toNat).toList == a0.toList) = true := beq_iff_eq.mpr c15
           (try simp only [Int.toNat_natCast] at c15b0)
           have c15b1 : ((a1.extract (x5_1 : Int).toNat (x6_2 : Int).toNat).toList != a0.toList) = false := bne_eq_false_iff_eq.mpr c15
           (try simp only [Int.toNat_natCast] at c15b1)
           clear c15
           obtain rfl := Option.some.inj H
           go_wp2
           go_ret
           exact ⟨by first | rfl | (simp; done) | (simp [*]; done) | (simp [bne, List.isEmpty_iff]; done) | (simp [bne, List.isEmpty_iff, *]; done) | (simp [bne]; rfl), by repeat (first | exact Drawn0.refl _ | apply Drawn0.step)⟩
          ·rw [if_neg c15] at H
           have c15b0 : ((a1.extract (x5_1 : Int).toNat (x6_2 : Int).toNat).toList == a0.toList) = false := beq_eq_false_iff_ne.mpr c15
           (try simp only [Int.toNat_natCast] at c15b0)
           have c15b1 : ((a1.extract (x5_1 : Int).toNat (x6_2 : Int).toNat).toList != a0.toList) = true := bne_iff_ne.mpr c15
           (try simp only [Int.toNat_natCast] at c15b1)
           have H' := Aside0.mk H
           clear H
           go_wp2
           go_roundg k2
           case measure => have := HK1.out; have := HK2.out; omega
           case rel => exact ⟨(wrap64 (x6_2 + 1)), (by first | rfl | (simp; done) | (simp [*]; done) | (simp [bne, List.isEmpty_iff]; done) | (simp [bne, List.isEmpty_iff, *]; done) | (simp [bne]; rfl)), H', ⟨by have := HK1.out; have := HK2.out; omega⟩, by repeat (first | exact Drawn0.refl _ | apply Drawn0.step)⟩
         ·rw [if_neg c14] at H
          exact absurd H (by simp)
        ·rw [if_neg c13] at H
         exact absurd H (by simp)
       ·rw [if_neg c12] at H
        exact absurd H (by simp)
   ·rw [if_neg c3] at H
    have c3b0 : decide (x5_1 < (a1.size : Int)) = false := decide_eq_false c3
    clear c3
    obtain rfl := Option.some.inj H
    go_wp2
    go_ret
    exact ⟨by first | rfl | (simp; done) | (simp [*]; done) | (simp [bne, List.isEmpty_iff]; done) | (simp [bne, List.isEmpty_iff, *]; done) | (simp [bne]; rfl), by repeat (first | exact Drawn0.refl _ | apply Drawn0.step)⟩

/-! ### selvedgeref05_Kind: function 22 -/
def selvedgeref05_Kind.j0 : Nat → ByteArray → Bool → Option (Int)
 | 0, _, _ => none
 | k + 1, x0, x22 => if x22 = true then (some 7) else (if x0.toList = ([104, 114] : List UInt8) then (some 8) else (some 0))
def selvedgeref05_Kind.f (k : Nat) (a0 : ByteArray) : Option (Int) := if a0.toList = ([] : List UInt8) then (some 0) else ((selvedgeref05_among.f k a0 (⟨#[100, 105, 118, 32, 117, 108, 32, 111, 108, 32, 115, 101, 99, 116, 105, 111, 110, 32, 97, 114, 116, 105, 99, 108, 101, 32, 104, 101, 97, 100, 101, 114, 32, 102, 111, 111, 116, 101, 114, 32, 109, 97, 105, 110, 32, 110, 97, 118, 32, 97, 115, 105, 100, 101, 32, 98, 108, 111, 99, 107, 113, 117, 111, 116, 101, 32, 102, 105, 103, 117, 114, 101]⟩ : ByteArray)).bind fun t101 => (if t101 = true then (some 1) else (if a0.toList = ([112] : List UInt8) then (some 2) else (if a0.toList = ([108, 105] : List UInt8) then (some 3) else ((selvedgeref05_among.f k a0 (⟨#[104, 49, 32, 104, 50, 32, 104, 51, 32, 104, 52, 32, 104, 53, 32, 104, 54]⟩ : ByteArray)).bind fun t102 => (if t102 = true then (some 4) else ((selvedgeref05_among.f k a0 (⟨#[115, 112, 97, 110, 32, 98, 32, 105, 32, 101, 109, 32, 115, 116, 114, 111, 110, 103, 32, 117, 32, 115, 32, 115, 109, 97, 108, 108, 32, 99, 111, 100, 101, 32, 98, 100, 105, 32, 98, 100, 111, 32, 97, 98, 98, 114, 32, 99, 105, 116, 101, 32, 113, 32, 115, 117, 98, 32, 115, 117, 112, 32, 109, 97, 114, 107]⟩ : ByteArray)).bind fun t103 => (if t103 = true then (some 5) else (if a0.toList = ([97] : List UInt8) then (some 6) else (if a0.toList = ([98, 114] : List UInt8) then (selvedgeref05_Kind.j0 k a0 true) else (selvedgeref05_Kind.j0 k a0 (a0.toList == ([119, 98, 114] : List UInt8)))))))))))))
theorem selvedgeref05_Kind.mono_l : ∀ k, (∀ y0 y1, LeO (selvedgeref05_Kind.j0 k y0 y1) (selvedgeref05_Kind.j0 (k + 1) y0 y1))
 | 0 => fun _ _ r h => by simp [selvedgeref05_Kind.j0] at h
 | k + 1 => by
  have ih0 := selvedgeref05_Kind.mono_l k
  ·intro y0 y1
   unfold selvedgeref05_Kind.j0
   repeat' first
   | (with_reducible exact ih0 _ _)
   | (with_reducible exact selvedgeref05_among.mono _ _ _)
   | (with_reducible exact LeO.refl _)
   | (with_reducible exact LeO.none _)
   | (with_reducible refine LeO.ite ?_ ?_)
   | (with_reducible refine LeO.bind ?_ (fun _ => ?_))
   | exact ih0 _ _
   | exact selvedgeref05_among.mono _ _ _
   | exact LeO.none _
   | refine LeO.ite ?_ ?_
   | refine LeO.bind ?_ (fun _ => ?_)
theorem selvedgeref05_Kind.mono : ∀ a0 k, LeO (selvedgeref05_Kind.f k a0) (selvedgeref05_Kind.f (k + 1) a0) := by
 intro a0 k
 have ih0 := selvedgeref05_Kind.mono_l k
 unfold selvedgeref05_Kind.f
 repeat' first
   | (with_reducible exact ih0 _ _)
   | (with_reducible exact selvedgeref05_among.mono _ _ _)
   | (with_reducible exact LeO.refl _)
   | (with_reducible exact LeO.none _)
   | (with_reducible refine LeO.ite ?_ ?_)
   | (with_reducible refine LeO.bind ?_ (fun _ => ?_))
   | exact ih0 _ _
   | exact selvedgeref05_among.mono _ _ _
   | exact LeO.none _
   | refine LeO.ite ?_ ?_
   | refine LeO.bind ?_ (fun _ => ?_)
set_option maxHeartbeats 80000000 in
set_option maxRecDepth 100000 in
theorem selvedgeref05_Kind.calls (k : Nat) (a0 : ByteArray) (r : Int) (w : World) (h : selvedgeref05_Kind.f k a0 = some r) :
  Calls Tryz.prog 22 #[.string a0] w fun e w' => e = .returned (.int .u8 r) ∧ Drawn0 w w' := by
 have H : (if a0.toList = ([] : List UInt8) then (some 0) else ((selvedgeref05_among.f k a0 (⟨#[100, 105, 118, 32, 117, 108, 32, 111, 108, 32, 115, 101, 99, 116, 105, 111, 110, 32, 97, 114, 116, 105, 99, 108, 101, 32, 104, 101, 97, 100, 101, 114, 32, 102, 111, 111, 116, 101, 114, 32, 109, 97, 105, 110, 32, 110, 97, 118, 32, 97, 115, 105, 100, 101, 32, 98, 108, 111, 99, 107, 113, 117, 111, 116, 101, 32, 102, 105, 103, 117, 114, 101]⟩ : ByteArray)).bind fun t101 => (if t101 = true then (some 1) else (if a0.toList = ([112] : List UInt8) then (some 2) else (if a0.toList = ([108, 105] : List UInt8) then (some 3) else ((selvedgeref05_among.f k a0 (⟨#[104, 49, 32, 104, 50, 32, 104, 51, 32, 104, 52, 32, 104, 53, 32, 104, 54]⟩ : ByteArray)).bind fun t102 => (if t102 = true then (some 4) else ((selvedgeref05_among.f k a0 (⟨#[115, 112, 97, 110, 32, 98, 32, 105, 32, 101, 109, 32, 115, 116, 114, 111, 110, 103, 32, 117, 32, 115, 32, 115, 109, 97, 108, 108, 32, 99, 111, 100, 101, 32, 98, 100, 105, 32, 98, 100, 111, 32, 97, 98, 98, 114, 32, 99, 105, 116, 101, 32, 113, 32, 115, 117, 98, 32, 115, 117, 112, 32, 109, 97, 114, 107]⟩ : ByteArray)).bind fun t103 => (if t103 = true then (some 5) else (if a0.toList = ([97] : List UInt8) then (some 6) else (if a0.toList = ([98, 114] : List UInt8) then (selvedgeref05_Kind.j0 k a0 true) else (selvedgeref05_Kind.j0 k a0 (a0.toList == ([119, 98, 114] : List UInt8)))))))))))))) = some r := h
 clear h
 by_cases c2 : a0.toList = ([] : List UInt8)
 ·rw [if_pos c2] at H
  have c2b0 : (a0.toList == ([] : List UInt8)) = true := beq_iff_eq.mpr c2
  have c2b1 : (a0.toList != ([] : List UInt8)) = false := bne_eq_false_iff_eq.mpr c2
  clear c2
  obtain rfl := Option.some.inj H
  go_enter Tryz.func22, Tryz.ntmps22
  go_wp2
  go_ret
  exact ⟨by first | rfl | (simp; done) | (simp [*]; done) | (simp [bne, List.isEmpty_iff]; done) | (simp [bne, List.isEmpty_iff, *]; done) | (simp [bne]; rfl), by repeat (first | exact Drawn0.refl _ | apply Drawn0.step)⟩
 ·rw [if_neg c2] at H
  have c2b0 : (a0.toList == ([] : List UInt8)) = false := beq_eq_false_iff_ne.mpr c2
  have c2b1 : (a0.toList != ([] : List UInt8)) = true := bne_iff_ne.mpr c2
  replace H := Option.bind_eq_some_iff.mp H
  obtain ⟨t101, A30, H⟩ := H
  replace H : (if t101 = true then (some 1) else (if a0.toList = ([112] : List UInt8) then (some 2) else (if a0.toList = ([108, 105] : List UInt8) then (some 3) else ((selvedgeref05_among.f k a0 (⟨#[104, 49, 32, 104, 50, 32, 104, 51, 32, 104, 52, 32, 104, 53, 32, 104, 54]⟩ : ByteArray)).bind fun t102 => (if t102 = true then (some 4) else ((selvedgeref05_among.f k a0 (⟨#[115, 112, 97, 110, 32, 98, 32, 105, 32, 101, 109, 32, 115, 116, 114, 111, 110, 103, 32, 117, 32, 115, 32, 115, 109, 97, 108, 108, 32, 99, 111, 100, 101, 32, 98, 100, 105, 32, 98, 100, 111, 32, 97, 98, 98, 114, 32, 99, 105, 116, 101, 32, 113, 32, 115, 117, 98, 32, 115, 117, 112, 32, 109, 97, 114, 107]⟩ : ByteArray)).bind fun t103 => (if t103 = true then (some 5) else (if a0.toList = ([97] : List UInt8) then (some 6) else (if a0.toList = ([98, 114] : List UInt8) then (selvedgeref05_Kind.j0 k a0 true) else (selvedgeref05_Kind.j0 k a0 (a0.toList == ([119, 98, 114] : List UInt8)))))))))))) = some r := H
  have A3 := Aside0.mk A30
  clear A30
  by_cases c4 : t101 = true
  ·subst c4
   have H1 : (some 1) = some r := by rw [if_pos rfl] at H; exact H
   clear H
   have H := H1
   clear H1
   obtain rfl := Option.some.inj H
   go_enter Tryz.func22, Tryz.ntmps22
   go_wp2_with (first | ((with_reducible refine gate_callee (f := 50) rfl ?_); refine goesL_ (some 6) rfl rfl Tryz.func50 (by kernel_rfl) rfl #[.string a0, .string (⟨#[100, 105, 118, 32, 117, 108, 32, 111, 108, 32, 115, 101, 99, 116, 105, 111, 110, 32, 97, 114, 116, 105, 99, 108, 101, 32, 104, 101, 97, 100, 101, 114, 32, 102, 111, 111, 116, 101, 114, 32, 109, 97, 105, 110, 32, 110, 97, 118, 32, 97, 115, 105, 100, 101, 32, 98, 108, 111, 99, 107, 113, 117, 111, 116, 101, 32, 102, 105, 103, 117, 114, 101]⟩ : ByteArray)] rfl (by (try simp only [List.map_toArray, List.map_cons, List.map_nil]); first | done | rfl | (simp only [List.length_drop, List.length_take]; rfl)) ?_; (with_reducible refine (selvedgeref05_among.calls k a0 (⟨#[100, 105, 118, 32, 117, 108, 32, 111, 108, 32, 115, 101, 99, 116, 105, 111, 110, 32, 97, 114, 116, 105, 99, 108, 101, 32, 104, 101, 97, 100, 101, 114, 32, 102, 111, 111, 116, 101, 114, 32, 109, 97, 105, 110, 32, 110, 97, 118, 32, 97, 115, 105, 100, 101, 32, 98, 108, 111, 99, 107, 113, 117, 111, 116, 101, 32, 102, 105, 103, 117, 114, 101]⟩ : ByteArray) true _ A3.out).mono ?_); rintro e w' ⟨rfl, ⟨nd, rfl⟩⟩; refine ⟨_, rfl, ?_⟩))
   go_ret
   exact ⟨by first | rfl | (simp; done) | (simp [*]; done) | (simp [bne, List.isEmpty_iff]; done) | (simp [bne, List.isEmpty_iff, *]; done) | (simp [bne]; rfl), by repeat (first | exact Drawn0.refl _ | apply Drawn0.step)⟩
  ·replace c4 := Bool.eq_false_iff.mpr c4
   subst c4
   have H1 : (if a0.toList = ([112] : List UInt8) then (some 2) else (if a0.toList = ([108, 105] : List UInt8) then (some 3) else ((selvedgeref05_among.f k a0 (⟨#[104, 49, 32, 104, 50, 32, 104, 51, 32, 104, 52, 32, 104, 53, 32, 104, 54]⟩ : ByteArray)).bind fun t102 => (if t102 = true then (some 4) else ((selvedgeref05_among.f k a0 (⟨#[115, 112, 97, 110, 32, 98, 32, 105, 32, 101, 109, 32, 115, 116, 114, 111, 110, 103, 32, 117, 32, 115, 32, 115, 109, 97, 108, 108, 32, 99, 111, 100, 101, 32, 98, 100, 105, 32, 98, 100, 111, 32, 97, 98, 98, 114, 32, 99, 105, 116, 101, 32, 113, 32, 115, 117, 98, 32, 115, 117, 112, 32, 109, 97, 114, 107]⟩ : ByteArray)).bind fun t103 => (if t103 = true then (some 5) else (if a0.toList = ([97] : List UInt8) then (some 6) else (if a0.toList = ([98, 114] : List UInt8) then (selvedgeref05_Kind.j0 k a0 true) else (selvedgeref05_Kind.j0 k a0 (a0.toList == ([119, 98, 114] : List UInt8))))))))))) = some r := by rw [if_neg (show ¬ (false = true) by decide)] at H; exact H
   clear H
   have H := H1
   clear H1
   by_cases c5 : a0.toList = ([112] : List UInt8)
   ·rw [if_pos c5] at H
    have c5b0 : (a0.toList == ([112] : List UInt8)) = true := beq_iff_eq.mpr c5
    have c5b1 : (a0.toList != ([112] : List UInt8)) = false := bne_eq_false_iff_eq.mpr c5
    clear c5
    obtain rfl := Option.some.inj H
    go_enter Tryz.func22, Tryz.ntmps22
    go_wp2_with (first | ((with_reducible refine gate_callee (f := 50) rfl ?_); refine goesL_ (some 6) rfl rfl Tryz.func50 (by kernel_rfl) rfl #[.string a0, .string (⟨#[100, 105, 118, 32, 117, 108, 32, 111, 108, 32, 115, 101, 99, 116, 105, 111, 110, 32, 97, 114, 116, 105, 99, 108, 101, 32, 104, 101, 97, 100, 101, 114, 32, 102, 111, 111, 116, 101, 114, 32, 109, 97, 105, 110, 32, 110, 97, 118, 32, 97, 115, 105, 100, 101, 32, 98, 108, 111, 99, 107, 113, 117, 111, 116, 101, 32, 102, 105, 103, 117, 114, 101]⟩ : ByteArray)] rfl (by (try simp only [List.map_toArray, List.map_cons, List.map_nil]); first | done | rfl | (simp only [List.length_drop, List.length_take]; rfl)) ?_; (with_reducible refine (selvedgeref05_among.calls k a0 (⟨#[100, 105, 118, 32, 117, 108, 32, 111, 108, 32, 115, 101, 99, 116, 105, 111, 110, 32, 97, 114, 116, 105, 99, 108, 101, 32, 104, 101, 97, 100, 101, 114, 32, 102, 111, 111, 116, 101, 114, 32, 109, 97, 105, 110, 32, 110, 97, 118, 32, 97, 115, 105, 100, 101, 32, 98, 108, 111, 99, 107, 113, 117, 111, 116, 101, 32, 102, 105, 103, 117, 114, 101]⟩ : ByteArray) false _ A3.out).mono ?_); rintro e w' ⟨rfl, ⟨nd, rfl⟩⟩; refine ⟨_, rfl, ?_⟩))
    go_ret
    exact ⟨by first | rfl | (simp; done) | (simp [*]; done) | (simp [bne, List.isEmpty_iff]; done) | (simp [bne, List.isEmpty_iff, *]; done) | (simp [bne]; rfl), by repeat (first | exact Drawn0.refl _ | apply Drawn0.step)⟩
   ·rw [if_neg c5] at H
    have c5b0 : (a0.toList == ([112] : List UInt8)) = false := beq_eq_false_iff_ne.mpr c5
    have c5b1 : (a0.toList != ([112] : List UInt8)) = true := bne_iff_ne.mpr c5
    by_cases c6 : a0.toList = ([108, 105] : List UInt8)
    ·rw [if_pos c6] at H
     have c6b0 : (a0.toList == ([108, 105] : List UInt8)) = true := beq_iff_eq.mpr c6
     have c6b1 : (a0.toList != ([108, 105] : List UInt8)) = false := bne_eq_false_iff_eq.mpr c6
     clear c6
     obtain rfl := Option.some.inj H
     go_enter Tryz.func22, Tryz.ntmps22
     go_wp2_with (first | ((with_reducible refine gate_callee (f := 50) rfl ?_); refine goesL_ (some 6) rfl rfl Tryz.func50 (by kernel_rfl) rfl #[.string a0, .string (⟨#[100, 105, 118, 32, 117, 108, 32, 111, 108, 32, 115, 101, 99, 116, 105, 111, 110, 32, 97, 114, 116, 105, 99, 108, 101, 32, 104, 101, 97, 100, 101, 114, 32, 102, 111, 111, 116, 101, 114, 32, 109, 97, 105, 110, 32, 110, 97, 118, 32, 97, 115, 105, 100, 101, 32, 98, 108, 111, 99, 107, 113, 117, 111, 116, 101, 32, 102, 105, 103, 117, 114, 101]⟩ : ByteArray)] rfl (by (try simp only [List.map_toArray, List.map_cons, List.map_nil]); first | done | rfl | (simp only [List.length_drop, List.length_take]; rfl)) ?_; (with_reducible refine (selvedgeref05_among.calls k a0 (⟨#[100, 105, 118, 32, 117, 108, 32, 111, 108, 32, 115, 101, 99, 116, 105, 111, 110, 32, 97, 114, 116, 105, 99, 108, 101, 32, 104, 101, 97, 100, 101, 114, 32, 102, 111, 111, 116, 101, 114, 32, 109, 97, 105, 110, 32, 110, 97, 118, 32, 97, 115, 105, 100, 101, 32, 98, 108, 111, 99, 107, 113, 117, 111, 116, 101, 32, 102, 105, 103, 117, 114, 101]⟩ : ByteArray) false _ A3.out).mono ?_); rintro e w' ⟨rfl, ⟨nd, rfl⟩⟩; refine ⟨_, rfl, ?_⟩))
     go_ret
     exact ⟨by first | rfl | (simp; done) | (simp [*]; done) | (simp [bne, List.isEmpty_iff]; done) | (simp [bne, List.isEmpty_iff, *]; done) | (simp [bne]; rfl), by repeat (first | exact Drawn0.refl _ | apply Drawn0.step)⟩
    ·rw [if_neg c6] at H
     have c6b0 : (a0.toList == ([108, 105] : List UInt8)) = false := beq_eq_false_iff_ne.mpr c6
     have c6b1 : (a0.toList != ([108, 105] : List UInt8)) = true := bne_iff_ne.mpr c6
     replace H := Option.bind_eq_some_iff.mp H
     obtain ⟨t102, A70, H⟩ := H
     replace H : (if t102 = true then (some 4) else ((selvedgeref05_among.f k a0 (⟨#[115, 112, 97, 110, 32, 98, 32, 105, 32, 101, 109, 32, 115, 116, 114, 111, 110, 103, 32, 117, 32, 115, 32, 115, 109, 97, 108, 108, 32, 99, 111, 100, 101, 32, 98, 100, 105, 32, 98, 100, 111, 32, 97, 98, 98, 114, 32, 99, 105, 116, 101, 32, 113, 32, 115, 117, 98, 32, 115, 117, 112, 32, 109, 97, 114, 107]⟩ : ByteArray)).bind fun t103 => (if t103 = true then (some 5) else (if a0.toList = ([97] : List UInt8) then (some 6) else (if a0.toList = ([98, 114] : List UInt8) then (selvedgeref05_Kind.j0 k a0 true) else (selvedgeref05_Kind.j0 k a0 (a0.toList == ([119, 98, 114] : List UInt8)))))))) = some r := H
     have A7 := Aside0.mk A70
     clear A70
     by_cases c8 : t102 = true
     ·subst c8
      have H1 : (some 4) = some r := by rw [if_pos rfl] at H; exact H
      clear H
      have H := H1
      clear H1
      obtain rfl := Option.some.inj H
      go_enter Tryz.func22, Tryz.ntmps22
      go_wp2_with (first | ((with_reducible refine gate_callee (f := 50) rfl ?_); refine goesL_ (some 6) rfl rfl Tryz.func50 (by kernel_rfl) rfl #[.string a0, .string (⟨#[100, 105, 118, 32, 117, 108, 32, 111, 108, 32, 115, 101, 99, 116, 105, 111, 110, 32, 97, 114, 116, 105, 99, 108, 101, 32, 104, 101, 97, 100, 101, 114, 32, 102, 111, 111, 116, 101, 114, 32, 109, 97, 105, 110, 32, 110, 97, 118, 32, 97, 115, 105, 100, 101, 32, 98, 108, 111, 99, 107, 113, 117, 111, 116, 101, 32, 102, 105, 103, 117, 114, 101]⟩ : ByteArray)] rfl (by (try simp only [List.map_toArray, List.map_cons, List.map_nil]); first | done | rfl | (simp only [List.length_drop, List.length_take]; rfl)) ?_; (with_reducible refine (selvedgeref05_among.calls k a0 (⟨#[100, 105, 118, 32, 117, 108, 32, 111, 108, 32, 115, 101, 99, 116, 105, 111, 110, 32, 97, 114, 116, 105, 99, 108, 101, 32, 104, 101, 97, 100, 101, 114, 32, 102, 111, 111, 116, 101, 114, 32, 109, 97, 105, 110, 32, 110, 97, 118, 32, 97, 115, 105, 100, 101, 32, 98, 108, 111, 99, 107, 113, 117, 111, 116, 101, 32, 102, 105, 103, 117, 114, 101]⟩ : ByteArray) false _ A3.out).mono ?_); rintro e w' ⟨rfl, ⟨nd, rfl⟩⟩; refine ⟨_, rfl, ?_⟩) | ((with_reducible refine gate_callee (f := 50) rfl ?_); refine goesL_ (some 12) rfl rfl Tryz.func50 (by kernel_rfl) rfl #[.string a0, .string (⟨#[104, 49, 32, 104, 50, 32, 104, 51, 32, 104, 52, 32, 104, 53, 32, 104, 54]⟩ : ByteArray)] rfl (by (try simp only [List.map_toArray, List.map_cons, List.map_nil]); first | done | rfl | (simp only [List.length_drop, List.length_take]; rfl)) ?_; (with_reducible refine (selvedgeref05_among.calls k a0 (⟨#[104, 49, 32, 104, 50, 32, 104, 51, 32, 104, 52, 32, 104, 53, 32, 104, 54]⟩ : ByteArray) true _ A7.out).mono ?_); rintro e w' ⟨rfl, ⟨nd, rfl⟩⟩; refine ⟨_, rfl, ?_⟩))
      go_ret
      exact ⟨by first | rfl | (simp; done) | (simp [*]; done) | (simp [bne, List.isEmpty_iff]; done) | (simp [bne, List.isEmpty_iff, *]; done) | (simp [bne]; rfl), by repeat (first | exact Drawn0.refl _ | apply Drawn0.step)⟩
     ·replace c8 := Bool.eq_false_iff.mpr c8
      subst c8
      have H1 : ((selvedgeref05_among.f k a0 (⟨#[115, 112, 97, 110, 32, 98, 32, 105, 32, 101, 109, 32, 115, 116, 114, 111, 110, 103, 32, 117, 32, 115, 32, 115, 109, 97, 108, 108, 32, 99, 111, 100, 101, 32, 98, 100, 105, 32, 98, 100, 111, 32, 97, 98, 98, 114, 32, 99, 105, 116, 101, 32, 113, 32, 115, 117, 98, 32, 115, 117, 112, 32, 109, 97, 114, 107]⟩ : ByteArray)).bind fun t103 => (if t103 = true then (some 5) else (if a0.toList = ([97] : List UInt8) then (some 6) else (if a0.toList = ([98, 114] : List UInt8) then (selvedgeref05_Kind.j0 k a0 true) else (selvedgeref05_Kind.j0 k a0 (a0.toList == ([119, 98, 114] : List UInt8))))))) = some r := by rw [if_neg (show ¬ (false = true) by decide)] at H; exact H
      clear H
      have H := H1
      clear H1
      replace H := Option.bind_eq_some_iff.mp H
      obtain ⟨t103, A90, H⟩ := H
      replace H : (if t103 = true then (some 5) else (if a0.toList = ([97] : List UInt8) then (some 6) else (if a0.toList = ([98, 114] : List UInt8) then (selvedgeref05_Kind.j0 k a0 true) else (selvedgeref05_Kind.j0 k a0 (a0.toList == ([119, 98, 114] : List UInt8)))))) = some r := H
      have A9 := Aside0.mk A90
      clear A90
      by_cases c10 : t103 = true
      ·subst c10
       have H1 : (some 5) = some r := by rw [if_pos rfl] at H; exact H
       clear H
       have H := H1
       clear H1
       obtain rfl := Option.some.inj H
       go_enter Tryz.func22, Tryz.ntmps22
       go_wp2_with (first | ((with_reducible refine gate_callee (f := 50) rfl ?_); refine goesL_ (some 6) rfl rfl Tryz.func50 (by kernel_rfl) rfl #[.string a0, .string (⟨#[100, 105, 118, 32, 117, 108, 32, 111, 108, 32, 115, 101, 99, 116, 105, 111, 110, 32, 97, 114, 116, 105, 99, 108, 101, 32, 104, 101, 97, 100, 101, 114, 32, 102, 111, 111, 116, 101, 114, 32, 109, 97, 105, 110, 32, 110, 97, 118, 32, 97, 115, 105, 100, 101, 32, 98, 108, 111, 99, 107, 113, 117, 111, 116, 101, 32, 102, 105, 103, 117, 114, 101]⟩ : ByteArray)] rfl (by (try simp only [List.map_toArray, List.map_cons, List.map_nil]); first | done | rfl | (simp only [List.length_drop, List.length_take]; rfl)) ?_; (with_reducible refine (selvedgeref05_among.calls k a0 (⟨#[100, 105, 118, 32, 117, 108, 32, 111, 108, 32, 115, 101, 99, 116, 105, 111, 110, 32, 97, 114, 116, 105, 99, 108, 101, 32, 104, 101, 97, 100, 101, 114, 32, 102, 111, 111, 116, 101, 114, 32, 109, 97, 105, 110, 32, 110, 97, 118, 32, 97, 115, 105, 100, 101, 32, 98, 108, 111, 99, 107, 113, 117, 111, 116, 101, 32, 102, 105, 103, 117, 114, 101]⟩ : ByteArray) false _ A3.out).mono ?_); rintro e w' ⟨rfl, ⟨nd, rfl⟩⟩; refine ⟨_, rfl, ?_⟩) | ((with_reducible refine gate_callee (f := 50) rfl ?_); refine goesL_ (some 12) rfl rfl Tryz.func50 (by kernel_rfl) rfl #[.string a0, .string (⟨#[104, 49, 32, 104, 50, 32, 104, 51, 32, 104, 52, 32, 104, 53, 32, 104, 54]⟩ : ByteArray)] rfl (by (try simp only [List.map_toArray, List.map_cons, List.map_nil]); first | done | rfl | (simp only [List.length_drop, List.length_take]; rfl)) ?_; (with_reducible refine (selvedgeref05_among.calls k a0 (⟨#[104, 49, 32, 104, 50, 32, 104, 51, 32, 104, 52, 32, 104, 53, 32, 104, 54]⟩ : ByteArray) false _ A7.out).mono ?_); rintro e w' ⟨rfl, ⟨nd, rfl⟩⟩; refine ⟨_, rfl, ?_⟩) | ((with_reducible refine gate_callee (f := 50) rfl ?_); refine goesL_ (some 14) rfl rfl Tryz.func50 (by kernel_rfl) rfl #[.string a0, .string (⟨#[115, 112, 97, 110, 32, 98, 32, 105, 32, 101, 109, 32, 115, 116, 114, 111, 110, 103, 32, 117, 32, 115, 32, 115, 109, 97, 108, 108, 32, 99, 111, 100, 101, 32, 98, 100, 105, 32, 98, 100, 111, 32, 97, 98, 98, 114, 32, 99, 105, 116, 101, 32, 113, 32, 115, 117, 98, 32, 115, 117, 112, 32, 109, 97, 114, 107]⟩ : ByteArray)] rfl (by (try simp only [List.map_toArray, List.map_cons, List.map_nil]); first | done | rfl | (simp only [List.length_drop, List.length_take]; rfl)) ?_; (with_reducible refine (selvedgeref05_among.calls k a0 (⟨#[115, 112, 97, 110, 32, 98, 32, 105, 32, 101, 109, 32, 115, 116, 114, 111, 110, 103, 32, 117, 32, 115, 32, 115, 109, 97, 108, 108, 32, 99, 111, 100, 101, 32, 98, 100, 105, 32, 98, 100, 111, 32, 97, 98, 98, 114, 32, 99, 105, 116, 101, 32, 113, 32, 115, 117, 98, 32, 115, 117, 112, 32, 109, 97, 114, 107]⟩ : ByteArray) true _ A9.out).mono ?_); rintro e w' ⟨rfl, ⟨nd, rfl⟩⟩; refine ⟨_, rfl, ?_⟩))
       go_ret
       exact ⟨by first | rfl | (simp; done) | (simp [*]; done) | (simp [bne, List.isEmpty_iff]; done) | (simp [bne, List.isEmpty_iff, *]; done) | (simp [bne]; rfl), by repeat (first | exact Drawn0.refl _ | apply Drawn0.step)⟩
      ·replace c10 := Bool.eq_false_iff.mpr c10
       subst c10
       have H1 : (if a0.toList = ([97] : List UInt8) then (some 6) else (if a0.toList = ([98, 114] : List UInt8) then (selvedgeref05_Kind.j0 k a0 true) else (selvedgeref05_Kind.j0 k a0 (a0.toList == ([119, 98, 114] : List UInt8))))) = some r := by rw [if_neg (show ¬ (false = true) by decide)] at H; exact H
       clear H
       have H := H1
       clear H1
       by_cases c11 : a0.toList = ([97] : List UInt8)
       ·rw [if_pos c11] at H
        have c11b0 : (a0.toList == ([97] : List UInt8)) = true := beq_iff_eq.mpr c11
        have c11b1 : (a0.toList != ([97] : List UInt8)) = false := bne_eq_false_iff_eq.mpr c11
        clear c11
        obtain rfl := Option.some.inj H
        go_enter Tryz.func22, Tryz.ntmps22
        go_wp2_with (first | ((with_reducible refine gate_callee (f := 50) rfl ?_); refine goesL_ (some 6) rfl rfl Tryz.func50 (by kernel_rfl) rfl #[.string a0, .string (⟨#[100, 105, 118, 32, 117, 108, 32, 111, 108, 32, 115, 101, 99, 116, 105, 111, 110, 32, 97, 114, 116, 105, 99, 108, 101, 32, 104, 101, 97, 100, 101, 114, 32, 102, 111, 111, 116, 101, 114, 32, 109, 97, 105, 110, 32, 110, 97, 118, 32, 97, 115, 105, 100, 101, 32, 98, 108, 111, 99, 107, 113, 117, 111, 116, 101, 32, 102, 105, 103, 117, 114, 101]⟩ : ByteArray)] rfl (by (try simp only [List.map_toArray, List.map_cons, List.map_nil]); first | done | rfl | (simp only [List.length_drop, List.length_take]; rfl)) ?_; (with_reducible refine (selvedgeref05_among.calls k a0 (⟨#[100, 105, 118, 32, 117, 108, 32, 111, 108, 32, 115, 101, 99, 116, 105, 111, 110, 32, 97, 114, 116, 105, 99, 108, 101, 32, 104, 101, 97, 100, 101, 114, 32, 102, 111, 111, 116, 101, 114, 32, 109, 97, 105, 110, 32, 110, 97, 118, 32, 97, 115, 105, 100, 101, 32, 98, 108, 111, 99, 107, 113, 117, 111, 116, 101, 32, 102, 105, 103, 117, 114, 101]⟩ : ByteArray) false _ A3.out).mono ?_); rintro e w' ⟨rfl, ⟨nd, rfl⟩⟩; refine ⟨_, rfl, ?_⟩) | ((with_reducible refine gate_callee (f := 50) rfl ?_); refine goesL_ (some 12) rfl rfl Tryz.func50 (by kernel_rfl) rfl #[.string a0, .string (⟨#[104, 49, 32, 104, 50, 32, 104, 51, 32, 104, 52, 32, 104, 53, 32, 104, 54]⟩ : ByteArray)] rfl (by (try simp only [List.map_toArray, List.map_cons, List.map_nil]); first | done | rfl | (simp only [List.length_drop, List.length_take]; rfl)) ?_; (with_reducible refine (selvedgeref05_among.calls k a0 (⟨#[104, 49, 32, 104, 50, 32, 104, 51, 32, 104, 52, 32, 104, 53, 32, 104, 54]⟩ : ByteArray) false _ A7.out).mono ?_); rintro e w' ⟨rfl, ⟨nd, rfl⟩⟩; refine ⟨_, rfl, ?_⟩) | ((with_reducible refine gate_callee (f := 50) rfl ?_); refine goesL_ (some 14) rfl rfl Tryz.func50 (by kernel_rfl) rfl #[.string a0, .string (⟨#[115, 112, 97, 110, 32, 98, 32, 105, 32, 101, 109, 32, 115, 116, 114, 111, 110, 103, 32, 117, 32, 115, 32, 115, 109, 97, 108, 108, 32, 99, 111, 100, 101, 32, 98, 100, 105, 32, 98, 100, 111, 32, 97, 98, 98, 114, 32, 99, 105, 116, 101, 32, 113, 32, 115, 117, 98, 32, 115, 117, 112, 32, 109, 97, 114, 107]⟩ : ByteArray)] rfl (by (try simp only [List.map_toArray, List.map_cons, List.map_nil]); first | done | rfl | (simp only [List.length_drop, List.length_take]; rfl)) ?_; (with_reducible refine (selvedgeref05_among.calls k a0 (⟨#[115, 112, 97, 110, 32, 98, 32, 105, 32, 101, 109, 32, 115, 116, 114, 111, 110, 103, 32, 117, 32, 115, 32, 115, 109, 97, 108, 108, 32, 99, 111, 100, 101, 32, 98, 100, 105, 32, 98, 100, 111, 32, 97, 98, 98, 114, 32, 99, 105, 116, 101, 32, 113, 32, 115, 117, 98, 32, 115, 117, 112, 32, 109, 97, 114, 107]⟩ : ByteArray) false _ A9.out).mono ?_); rintro e w' ⟨rfl, ⟨nd, rfl⟩⟩; refine ⟨_, rfl, ?_⟩))
        go_ret
        exact ⟨by first | rfl | (simp; done) | (simp [*]; done) | (simp [bne, List.isEmpty_iff]; done) | (simp [bne, List.isEmpty_iff, *]; done) | (simp [bne]; rfl), by repeat (first | exact Drawn0.refl _ | apply Drawn0.step)⟩
       ·rw [if_neg c11] at H
        have c11b0 : (a0.toList == ([97] : List UInt8)) = false := beq_eq_false_iff_ne.mpr c11
        have c11b1 : (a0.toList != ([97] : List UInt8)) = true := bne_iff_ne.mpr c11
        have HC12 := Aside0.mk H
        clear H
        go_enter Tryz.func22, Tryz.ntmps22
        go_upto_region 15 with (first | ((with_reducible refine gate_callee (f := 50) rfl ?_); refine goesL_ (some 6) rfl rfl Tryz.func50 (by kernel_rfl) rfl #[.string a0, .string (⟨#[100, 105, 118, 32, 117, 108, 32, 111, 108, 32, 115, 101, 99, 116, 105, 111, 110, 32, 97, 114, 116, 105, 99, 108, 101, 32, 104, 101, 97, 100, 101, 114, 32, 102, 111, 111, 116, 101, 114, 32, 109, 97, 105, 110, 32, 110, 97, 118, 32, 97, 115, 105, 100, 101, 32, 98, 108, 111, 99, 107, 113, 117, 111, 116, 101, 32, 102, 105, 103, 117, 114, 101]⟩ : ByteArray)] rfl (by (try simp only [List.map_toArray, List.map_cons, List.map_nil]); first | done | rfl | (simp only [List.length_drop, List.length_take]; rfl)) ?_; (with_reducible refine (selvedgeref05_among.calls k a0 (⟨#[100, 105, 118, 32, 117, 108, 32, 111, 108, 32, 115, 101, 99, 116, 105, 111, 110, 32, 97, 114, 116, 105, 99, 108, 101, 32, 104, 101, 97, 100, 101, 114, 32, 102, 111, 111, 116, 101, 114, 32, 109, 97, 105, 110, 32, 110, 97, 118, 32, 97, 115, 105, 100, 101, 32, 98, 108, 111, 99, 107, 113, 117, 111, 116, 101, 32, 102, 105, 103, 117, 114, 101]⟩ : ByteArray) false _ A3.out).mono ?_); rintro e w' ⟨rfl, ⟨nd, rfl⟩⟩; refine ⟨_, rfl, ?_⟩) | ((with_reducible refine gate_callee (f := 50) rfl ?_); refine goesL_ (some 12) rfl rfl Tryz.func50 (by kernel_rfl) rfl #[.string a0, .string (⟨#[104, 49, 32, 104, 50, 32, 104, 51, 32, 104, 52, 32, 104, 53, 32, 104, 54]⟩ : ByteArray)] rfl (by (try simp only [List.map_toArray, List.map_cons, List.map_nil]); first | done | rfl | (simp only [List.length_drop, List.length_take]; rfl)) ?_; (with_reducible refine (selvedgeref05_among.calls k a0 (⟨#[104, 49, 32, 104, 50, 32, 104, 51, 32, 104, 52, 32, 104, 53, 32, 104, 54]⟩ : ByteArray) false _ A7.out).mono ?_); rintro e w' ⟨rfl, ⟨nd, rfl⟩⟩; refine ⟨_, rfl, ?_⟩) | ((with_reducible refine gate_callee (f := 50) rfl ?_); refine goesL_ (some 14) rfl rfl Tryz.func50 (by kernel_rfl) rfl #[.string a0, .string (⟨#[115, 112, 97, 110, 32, 98, 32, 105, 32, 101, 109, 32, 115, 116, 114, 111, 110, 103, 32, 117, 32, 115, 32, 115, 109, 97, 108, 108, 32, 99, 111, 100, 101, 32, 98, 100, 105, 32, 98, 100, 111, 32, 97, 98, 98, 114, 32, 99, 105, 116, 101, 32, 113, 32, 115, 117, 98, 32, 115, 117, 112, 32, 109, 97, 114, 107]⟩ : ByteArray)] rfl (by (try simp only [List.map_toArray, List.map_cons, List.map_nil]); first | done | rfl | (simp only [List.length_drop, List.length_take]; rfl)) ?_; (with_reducible refine (selvedgeref05_among.calls k a0 (⟨#[115, 112, 97, 110, 32, 98, 32, 105, 32, 101, 109, 32, 115, 116, 114, 111, 110, 103, 32, 117, 32, 115, 32, 115, 109, 97, 108, 108, 32, 99, 111, 100, 101, 32, 98, 100, 105, 32, 98, 100, 111, 32, 97, 98, 98, 114, 32, 99, 105, 116, 101, 32, 113, 32, 115, 117, 98, 32, 115, 117, 112, 32, 109, 97, 114, 107]⟩ : ByteArray) false _ A9.out).mono ?_); rintro e w' ⟨rfl, ⟨nd, rfl⟩⟩; refine ⟨_, rfl, ?_⟩))
        (try simp only [Act.put, List.setIfInBounds_toArray, List.set_cons_zero, List.set_cons_succ])
        go_cut [22] (fun v22 wc => ∃ (kq : Nat) (x22_11 : Bool), v22 = .bool x22_11 ∧ Aside0 (selvedgeref05_Kind.j0 kq a0 x22_11 = some r) ∧ Aside0 (kq ≤ k) ∧ Drawn0 w wc)
        case first =>
         have H := HC12.out
         clear HC12
         by_cases c13 : a0.toList = ([98, 114] : List UInt8)
         ·rw [if_pos c13] at H
          have c13b0 : (a0.toList == ([98, 114] : List UInt8)) = true := beq_iff_eq.mpr c13
          have c13b1 : (a0.toList != ([98, 114] : List UInt8)) = false := bne_eq_false_iff_eq.mpr c13
          clear c13
          (first | rw [c13b0] | (simp only [i64_w, i32_w]; rw [c13b0]) | skip)
          have H' := Aside0.mk H
          clear H
          go_wp2
          go_meet
          case rel => exact ⟨_, (true), (by first | rfl | (simp; done) | (simp [*]; done) | (simp [bne, List.isEmpty_iff]; done) | (simp [bne, List.isEmpty_iff, *]; done) | (simp [bne]; rfl)), H', ⟨by first | omega | exact Nat.le_refl _⟩, by repeat (first | exact Drawn0.refl _ | apply Drawn0.step)⟩
         ·rw [if_neg c13] at H
          have c13b0 : (a0.toList == ([98, 114] : List UInt8)) = false := beq_eq_false_iff_ne.mpr c13
          have c13b1 : (a0.toList != ([98, 114] : List UInt8)) = true := bne_iff_ne.mpr c13
          (first | rw [c13b0] | (simp only [i64_w, i32_w]; rw [c13b0]) | skip)
          have H' := Aside0.mk H
          clear H
          go_wp2
          go_meet
          case rel => exact ⟨_, ((a0.toList == ([119, 98, 114] : List UInt8))), (by first | rfl | (simp; done) | (simp [*]; done) | (simp [bne, List.isEmpty_iff]; done) | (simp [bne, List.isEmpty_iff, *]; done) | (simp [bne]; rfl)), H', ⟨by first | omega | exact Nat.le_refl _⟩, by repeat (first | exact Drawn0.refl _ | apply Drawn0.step)⟩
        case rest =>
         clear HC12
         try clear c1
         try clear c2
         try clear c2b0
         try clear c2b1
         try clear p2
         try clear c4
         try clear c5
         try clear c5b0
         try clear c5b1
         try clear c6
         try clear c6b0
         try clear c6b1
         try clear c8
         try clear c10
         try clear c11
         try clear c11b0
         try clear c11b1
         try clear c13
         try clear c13b0
         try clear c13b1
         obtain ⟨kq, x22_11, rfl, HA, HJ11, ⟨mc11, rfl⟩⟩ := hcut
         cases kq with
         | zero => exact absurd HA.out (by simp [selvedgeref05_Kind.j0])
         | succ kj11 =>
          have H := HA.out
          clear HA
          simp only [selvedgeref05_Kind.j0] at H
          by_cases c14 : x22_11 = true
          ·subst c14
           have H1 : (some 7) = some r := by rw [if_pos rfl] at H; exact H
           clear H
           have H := H1
           clear H1
           obtain rfl := Option.some.inj H
           go_wp2
           go_ret
           exact ⟨by first | rfl | (simp; done) | (simp [*]; done) | (simp [bne, List.isEmpty_iff]; done) | (simp [bne, List.isEmpty_iff, *]; done) | (simp [bne]; rfl), by repeat (first | exact Drawn0.refl _ | apply Drawn0.step)⟩
          ·replace c14 := Bool.eq_false_iff.mpr c14
           subst c14
           have H1 : (if a0.toList = ([104, 114] : List UInt8) then (some 8) else (some 0)) = some r := by rw [if_neg (show ¬ (false = true) by decide)] at H; exact H
           clear H
           have H := H1
           clear H1
           by_cases c15 : a0.toList = ([104, 114] : List UInt8)
           ·rw [if_pos c15] at H
            have c15b0 : (a0.toList == ([104, 114] : List UInt8)) = true := beq_iff_eq.mpr c15
            have c15b1 : (a0.toList != ([104, 114] : List UInt8)) = false := bne_eq_false_iff_eq.mpr c15
            clear c15
            obtain rfl := Option.some.inj H
            go_wp2
            go_ret
            exact ⟨by first | rfl | (simp; done) | (simp [*]; done) | (simp [bne, List.isEmpty_iff]; done) | (simp [bne, List.isEmpty_iff, *]; done) | (simp [bne]; rfl), by repeat (first | exact Drawn0.refl _ | apply Drawn0.step)⟩
           ·rw [if_neg c15] at H
            have c15b0 : (a0.toList == ([104, 114] : List UInt8)) = false := beq_eq_false_iff_ne.mpr c15
            have c15b1 : (a0.toList != ([104, 114] : List UInt8)) = true := bne_iff_ne.mpr c15
            obtain rfl := Option.some.inj H
            go_wp2
            go_ret
            exact ⟨by first | rfl | (simp; done) | (simp [*]; done) | (simp [bne, List.isEmpty_iff]; done) | (simp [bne, List.isEmpty_iff, *]; done) | (simp [bne]; rfl), by repeat (first | exact Drawn0.refl _ | apply Drawn0.step)⟩

/-! ### selvedgeref04_Letter: function 20 -/
def selvedgeref04_Letter.f (a0 : Int) : Option (Bool) := if a0 ≥ 65 then (if a0 ≤ 90 then (some true) else (if a0 ≥ 97 then (some (decide (a0 ≤ 122))) else (some false))) else (if a0 ≥ 97 then (some (decide (a0 ≤ 122))) else (some false))
set_option maxHeartbeats 80000000 in
set_option maxRecDepth 100000 in
theorem selvedgeref04_Letter.calls (a0 : Int) (r : Bool) (w : World) (h : selvedgeref04_Letter.f a0 = some r) :
  Calls Tryz.prog 20 #[.int .u8 a0] w fun e w' => e = .returned (.bool r) ∧ Drawn0 w w' := by
 have H : (if a0 ≥ 65 then (if a0 ≤ 90 then (some true) else (if a0 ≥ 97 then (some (decide (a0 ≤ 122))) else (some false))) else (if a0 ≥ 97 then (some (decide (a0 ≤ 122))) else (some false))) = some r := h
 clear h
 by_cases c2 : a0 ≥ 65
 ·rw [if_pos c2] at H
  have c2b0 : decide (65 ≤ a0) = true := decide_eq_true c2
  clear c2
  by_cases c3 : a0 ≤ 90
  ·rw [if_pos c3] at H
   have c3b0 : decide (a0 ≤ 90) = true := decide_eq_true c3
   clear c3
   obtain rfl := Option.some.inj H
   go_enter Tryz.func20, Tryz.ntmps20
   go_wp2
   go_ret
   exact ⟨by first | rfl | (simp; done) | (simp [*]; done) | (simp [bne, List.isEmpty_iff]; done) | (simp [bne, List.isEmpty_iff, *]; done) | (simp [bne]; rfl), by repeat (first | exact Drawn0.refl _ | apply Drawn0.step)⟩
  ·rw [if_neg c3] at H
   have c3b0 : decide (a0 ≤ 90) = false := decide_eq_false c3
   clear c3
   by_cases c4 : a0 ≥ 97
   ·rw [if_pos c4] at H
    have c4b0 : decide (97 ≤ a0) = true := decide_eq_true c4
    clear c4
    obtain rfl := Option.some.inj H
    go_enter Tryz.func20, Tryz.ntmps20
    go_wp2
    go_ret
    exact ⟨by first | rfl | (simp; done) | (simp [*]; done) | (simp [bne, List.isEmpty_iff]; done) | (simp [bne, List.isEmpty_iff, *]; done) | (simp [bne]; rfl), by repeat (first | exact Drawn0.refl _ | apply Drawn0.step)⟩
   ·rw [if_neg c4] at H
    have c4b0 : decide (97 ≤ a0) = false := decide_eq_false c4
    clear c4
    obtain rfl := Option.some.inj H
    go_enter Tryz.func20, Tryz.ntmps20
    go_wp2
    go_ret
    exact ⟨by first | rfl | (simp; done) | (simp [*]; done) | (simp [bne, List.isEmpty_iff]; done) | (simp [bne, List.isEmpty_iff, *]; done) | (simp [bne]; rfl), by repeat (first | exact Drawn0.refl _ | apply Drawn0.step)⟩
 ·rw [if_neg c2] at H
  have c2b0 : decide (65 ≤ a0) = false := decide_eq_false c2
  clear c2
  by_cases c5 : a0 ≥ 97
  ·rw [if_pos c5] at H
   have c5b0 : decide (97 ≤ a0) = true := decide_eq_true c5
   clear c5
   obtain rfl := Option.some.inj H
   go_enter Tryz.func20, Tryz.ntmps20
   go_wp2
   go_ret
   exact ⟨by first | rfl | (simp; done) | (simp [*]; done) | (simp [bne, List.isEmpty_iff]; done) | (simp [bne, List.isEmpty_iff, *]; done) | (simp [bne]; rfl), by repeat (first | exact Drawn0.refl _ | apply Drawn0.step)⟩
  ·rw [if_neg c5] at H
   have c5b0 : decide (97 ≤ a0) = false := decide_eq_false c5
   clear c5
   obtain rfl := Option.some.inj H
   go_enter Tryz.func20, Tryz.ntmps20
   go_wp2
   go_ret
   exact ⟨by first | rfl | (simp; done) | (simp [*]; done) | (simp [bne, List.isEmpty_iff]; done) | (simp [bne, List.isEmpty_iff, *]; done) | (simp [bne]; rfl), by repeat (first | exact Drawn0.refl _ | apply Drawn0.step)⟩

/-! ### selvedgeref04_Digit: function 21 -/
def selvedgeref04_Digit.f (a0 : Int) : Option (Bool) := if a0 ≥ 48 then (some (decide (a0 ≤ 57))) else (some false)
set_option maxHeartbeats 80000000 in
set_option maxRecDepth 100000 in
theorem selvedgeref04_Digit.calls (a0 : Int) (r : Bool) (w : World) (h : selvedgeref04_Digit.f a0 = some r) :
  Calls Tryz.prog 21 #[.int .u8 a0] w fun e w' => e = .returned (.bool r) ∧ Drawn0 w w' := by
 have H : (if a0 ≥ 48 then (some (decide (a0 ≤ 57))) else (some false)) = some r := h
 clear h
 by_cases c2 : a0 ≥ 48
 ·rw [if_pos c2] at H
  have c2b0 : decide (48 ≤ a0) = true := decide_eq_true c2
  clear c2
  obtain rfl := Option.some.inj H
  go_enter Tryz.func21, Tryz.ntmps21
  go_wp2
  go_ret
  exact ⟨by first | rfl | (simp; done) | (simp [*]; done) | (simp [bne, List.isEmpty_iff]; done) | (simp [bne, List.isEmpty_iff, *]; done) | (simp [bne]; rfl), by repeat (first | exact Drawn0.refl _ | apply Drawn0.step)⟩
 ·rw [if_neg c2] at H
  have c2b0 : decide (48 ≤ a0) = false := decide_eq_false c2
  clear c2
  obtain rfl := Option.some.inj H
  go_enter Tryz.func21, Tryz.ntmps21
  go_wp2
  go_ret
  exact ⟨by first | rfl | (simp; done) | (simp [*]; done) | (simp [bne, List.isEmpty_iff]; done) | (simp [bne, List.isEmpty_iff, *]; done) | (simp [bne]; rfl), by repeat (first | exact Drawn0.refl _ | apply Drawn0.step)⟩

/-! ### selvedgeref04_Small: function 23 -/
def selvedgeref04_Small.l0 : Nat → ByteArray → List Int → Int → Option (ByteArray)
 | 0, _, _, _ => none
 | k + 1, x0, x3, x4 => if x4 < (x0.size : Int) then (if 0 ≤ x4 then (if (bt x0 x4) ≥ 65 then (if (bt x0 x4) ≤ 90 then (if x3.length < 140737488355328 then (selvedgeref04_Small.l0 k x0 (x3 ++ [((bt x0 x4) + 32) % 256]) (wrap64 (x4 + 1))) else (none)) else (if x3.length < 140737488355328 then (selvedgeref04_Small.l0 k x0 (x3 ++ [bt x0 x4]) (wrap64 (x4 + 1))) else (none))) else (if x3.length < 140737488355328 then (selvedgeref04_Small.l0 k x0 (x3 ++ [bt x0 x4]) (wrap64 (x4 + 1))) else (none))) else (none)) else (some (strOfNums x3))
def selvedgeref04_Small.f (k : Nat) (a0 : ByteArray) : Option (ByteArray) := selvedgeref04_Small.l0 k a0 ([] : List Int) 0
theorem selvedgeref04_Small.mono_l : ∀ k, (∀ y0 y1 y2, LeO (selvedgeref04_Small.l0 k y0 y1 y2) (selvedgeref04_Small.l0 (k + 1) y0 y1 y2))
 | 0 => fun _ _ _ r h => by simp [selvedgeref04_Small.l0] at h
 | k + 1 => by
  have ih0 := selvedgeref04_Small.mono_l k
  ·intro y0 y1 y2
   unfold selvedgeref04_Small.l0
   repeat' first
   | (with_reducible exact ih0 _ _ _)
   | (with_reducible exact LeO.refl _)
   | (with_reducible exact LeO.none _)
   | (with_reducible refine LeO.ite ?_ ?_)
   | (with_reducible refine LeO.bind ?_ (fun _ => ?_))
   | exact ih0 _ _ _
   | exact LeO.none _
   | refine LeO.ite ?_ ?_
   | refine LeO.bind ?_ (fun _ => ?_)
theorem selvedgeref04_Small.mono : ∀ a0 k, LeO (selvedgeref04_Small.f k a0) (selvedgeref04_Small.f (k + 1) a0) := by
 intro a0 k
 have ih0 := selvedgeref04_Small.mono_l k
 unfold selvedgeref04_Small.f
 repeat' first
   | (with_reducible exact ih0 _ _ _)
   | (with_reducible exact LeO.refl _)
   | (with_reducible exact LeO.none _)
   | (with_reducible refine LeO.ite ?_ ?_)
   | (with_reducible refine LeO.bind ?_ (fun _ => ?_))
   | exact ih0 _ _ _
   | exact LeO.none _
   | refine LeO.ite ?_ ?_
   | refine LeO.bind ?_ (fun _ => ?_)
set_option maxHeartbeats 80000000 in
set_option maxRecDepth 100000 in
theorem selvedgeref04_Small.calls (k : Nat) (a0 : ByteArray) (r : ByteArray) (w : World) (h : selvedgeref04_Small.f k a0 = some r) :
  Calls Tryz.prog 23 #[.string a0] w fun e w' => e = .returned (.string r) ∧ Below w.heap.size w w' := by
 have HB := Aside0.mk (Below.refl w.heap.size w)
 have H : (selvedgeref04_Small.l0 k a0 ([] : List Int) 0) = some r := h
 clear h
 have H' := Aside0.mk H
 clear H
 go_enter Tryz.func23, Tryz.ntmps23
 go_wp2
 go_loopg [3, 4] k (fun kq v3 v4 w' => ∃ (x3_1 : List Int) (x4_1 : Int), v4 = .int .i64 x4_1 ∧ Aside0 (selvedgeref04_Small.l0 kq a0 x3_1 x4_1 = some r) ∧ Aside0 (kq ≤ k) ∧ Aside0 (Kd.R (Kd.int .u8) 5 w' w.heap.size (fun _ => True) v3 x3_1) ∧ Aside0 (Below w.heap.size w w'))
 case atStart => exact ⟨(([] : List Int)), (0), (by first | rfl | (simp; done) | (simp [*]; done) | (simp [bne, List.isEmpty_iff]; done) | (simp [bne, List.isEmpty_iff, *]; done) | (simp [bne]; rfl)), H', ⟨Nat.le_refl _⟩, ⟨by first | exact Kd.R_nil _ _ _ _ _ | exact Kd.N_nil _ _ _ _ _ | exact Kd.V_nil _ _ _ _ _ | exact Kd.Q_nil _ _ _ _ _ | exact Kd.S_nil _ _ _ _ _⟩, ⟨by repeat (first | (with_reducible first | exact HB.out | apply below_alloc | apply pw_below_drewN | apply below_drew1) | exact HB.out)⟩⟩
 case round =>
  clear H'
  obtain ⟨x3_1, x4_1, rfl, HA, HK1, HO_3, HB⟩ := hrel
  cases gk with
  | zero => exact absurd HA.out (by simp [selvedgeref04_Small.l0])
  | succ k1 =>
   have H := HA.out
   clear HA
   simp only [selvedgeref04_Small.l0] at H
   by_cases c2 : x4_1 < (a0.size : Int)
   ·rw [if_pos c2] at H
    have c2b0 : decide (x4_1 < (a0.size : Int)) = true := decide_eq_true c2
    clear c2
    by_cases c3 : 0 ≤ x4_1
    ·rw [if_pos c3] at H
     have c3b0 : decide (0 ≤ x4_1) = true := decide_eq_true c3
     clear c3
     by_cases c5 : (bt a0 x4_1) ≥ 65
     ·rw [if_pos c5] at H
      have c5b0 : decide (65 ≤ (bt a0 x4_1)) = true := decide_eq_true c5
      clear c5
      by_cases c6 : (bt a0 x4_1) ≤ 90
      ·rw [if_pos c6] at H
       have c6b0 : decide ((bt a0 x4_1) ≤ 90) = true := decide_eq_true c6
       clear c6
       by_cases c7 : x3_1.length < 140737488355328
       ·rw [if_pos c7] at H
        have LMc7 := Aside0.mk c7
        clear c7
        obtain ⟨y104, hy104⟩ : ∃ y_ : List Int, y_ = (x3_1 ++ [((bt a0 x4_1) + 32) % 256]) := ⟨_, rfl⟩
        replace H : (selvedgeref04_Small.l0 k1 a0 y104 (wrap64 (x4_1 + 1))) = some r := by first | (rw [hy104]; with_reducible exact H) | (have H2_ := (Option.bind_some _ _).symm.trans H; rw [hy104]; with_reducible exact H2_) | (have H2_ := (Option.bind_some _ _).symm.trans H; with_reducible exact H2_) | with_reducible exact H | (rw [hy104]; exact H) | exact H
        have Ny104 := Aside0.mk hy104
        clear hy104
        have H' := Aside0.mk H
        clear H
        have p4 : 0 ≤ (x4_1 : Int) := of_decide_eq_true (by first | (with_reducible assumption) | assumption)
        have q4 : x4_1 < (a0.size : Int) := of_decide_eq_true (by first | (with_reducible assumption) | assumption)
        have hx4 := bt_at a0 x4_1
        replace p4 := eq_true p4
        replace q4 := eq_true q4
        go_wp2_with (first | ((with_reducible refine gate_builtin (b := .append) (xs := #[.tmp 23, .tmp 25]) rfl ?_); at_builtin; refine Kd.R_append (Kd.int .u8) (w0 := w) w.heap.size rfl (.tmp 23) (.tmp 25) 44 5 (.int .u8 0) 1 rfl Tryz.underlying44 info5 rfl (by decide) (by omega) u3 x3_1 (((bt a0 x4_1) + 32) % 256) [.int .u8 (((bt a0 x4_1) + 32) % 256)] (fun _ => True) (fun _ => False) rfl rfl ?aP (fun _ hk => hk.elim) ?aF ?aO ?aB ?aS ?aL ?_; (case aP => exact rfl); (case aB => exact (by repeat (first | (with_reducible first | exact HB.out | apply below_alloc | apply pw_below_drewN | apply below_drew1) | exact HB.out))); (case aF => exact (fun _ _ => trivial)); (case aO => exact (by (with_reducible repeat (first | apply Kd.R_alloc | apply Kd.R_drewN | apply Kd.R_drew)); exact HO_3.out)); (case aS => exact (below_size (by repeat (first | (with_reducible first | exact HB.out | apply below_alloc | apply pw_below_drewN | apply below_drew1) | exact HB.out)))); (case aL => have := LMc7.out; first | omega | (simp [ByteArray.size]; omega)); intro v105 w8 ho hb hg hat; rw [← Ny104.out] at ho; have n0_ := Aside0.mk (hb); have n1_ := Aside0.mk (ho); clear HB; clear HO_3; have HB := n0_; have HO106 := n1_; clear n0_ n1_; clear ho hb hg hat))
        go_roundg k1
        case measure => have := HK1.out; omega
        case rel => exact ⟨(y104), (wrap64 (x4_1 + 1)), (by first | rfl | (simp; done) | (simp [*]; done) | (simp [bne, List.isEmpty_iff]; done) | (simp [bne, List.isEmpty_iff, *]; done) | (simp [bne]; rfl)), H', ⟨by have := HK1.out; omega⟩, ⟨by (with_reducible repeat (first | apply Kd.R_alloc | apply Kd.R_drewN | apply Kd.R_drew)); exact HO106.out⟩, ⟨by repeat (first | (with_reducible first | exact HB.out | apply below_alloc | apply pw_below_drewN | apply below_drew1) | exact HB.out)⟩⟩
       ·rw [if_neg c7] at H
        exact absurd H (by simp)
      ·rw [if_neg c6] at H
       have c6b0 : decide ((bt a0 x4_1) ≤ 90) = false := decide_eq_false c6
       clear c6
       by_cases c9 : x3_1.length < 140737488355328
       ·rw [if_pos c9] at H
        have LMc9 := Aside0.mk c9
        clear c9
        obtain ⟨y107, hy107⟩ : ∃ y_ : List Int, y_ = (x3_1 ++ [bt a0 x4_1]) := ⟨_, rfl⟩
        replace H : (selvedgeref04_Small.l0 k1 a0 y107 (wrap64 (x4_1 + 1))) = some r := by first | (rw [hy107]; with_reducible exact H) | (have H2_ := (Option.bind_some _ _).symm.trans H; rw [hy107]; with_reducible exact H2_) | (have H2_ := (Option.bind_some _ _).symm.trans H; with_reducible exact H2_) | with_reducible exact H | (rw [hy107]; exact H) | exact H
        have Ny107 := Aside0.mk hy107
        clear hy107
        have H' := Aside0.mk H
        clear H
        have p4 : 0 ≤ (x4_1 : Int) := of_decide_eq_true (by first | (with_reducible assumption) | assumption)
        have q4 : x4_1 < (a0.size : Int) := of_decide_eq_true (by first | (with_reducible assumption) | assumption)
        have hx4 := bt_at a0 x4_1
        replace p4 := eq_true p4
        replace q4 := eq_true q4
        go_wp2_with (first | ((with_reducible refine gate_builtin (b := .append) (xs := #[.tmp 23, .tmp 25]) rfl ?_); at_builtin; refine Kd.R_append (Kd.int .u8) (w0 := w) w.heap.size rfl (.tmp 23) (.tmp 25) 44 5 (.int .u8 0) 1 rfl Tryz.underlying44 info5 rfl (by decide) (by omega) u3 x3_1 (bt a0 x4_1) [.int .u8 (bt a0 x4_1)] (fun _ => True) (fun _ => False) rfl rfl ?aP (fun _ hk => hk.elim) ?aF ?aO ?aB ?aS ?aL ?_; (case aP => exact rfl); (case aB => exact (by repeat (first | (with_reducible first | exact HB.out | apply below_alloc | apply pw_below_drewN | apply below_drew1) | exact HB.out))); (case aF => exact (fun _ _ => trivial)); (case aO => exact (by (with_reducible repeat (first | apply Kd.R_alloc | apply Kd.R_drewN | apply Kd.R_drew)); exact HO_3.out)); (case aS => exact (below_size (by repeat (first | (with_reducible first | exact HB.out | apply below_alloc | apply pw_below_drewN | apply below_drew1) | exact HB.out)))); (case aL => have := LMc9.out; first | omega | (simp [ByteArray.size]; omega)); intro v108 w10 ho hb hg hat; rw [← Ny107.out] at ho; have n0_ := Aside0.mk (hb); have n1_ := Aside0.mk (ho); clear HB; clear HO_3; have HB := n0_; have HO109 := n1_; clear n0_ n1_; clear ho hb hg hat))
        go_roundg k1
        case measure => have := HK1.out; omega
        case rel => exact ⟨(y107), (wrap64 (x4_1 + 1)), (by first | rfl | (simp; done) | (simp [*]; done) | (simp [bne, List.isEmpty_iff]; done) | (simp [bne, List.isEmpty_iff, *]; done) | (simp [bne]; rfl)), H', ⟨by have := HK1.out; omega⟩, ⟨by (with_reducible repeat (first | apply Kd.R_alloc | apply Kd.R_drewN | apply Kd.R_drew)); exact HO109.out⟩, ⟨by repeat (first | (with_reducible first | exact HB.out | apply below_alloc | apply pw_below_drewN | apply below_drew1) | exact HB.out)⟩⟩
       ·rw [if_neg c9] at H
        exact absurd H (by simp)
     ·rw [if_neg c5] at H
      have c5b0 : decide (65 ≤ (bt a0 x4_1)) = false := decide_eq_false c5
      clear c5
      by_cases c11 : x3_1.length < 140737488355328
      ·rw [if_pos c11] at H
       have LMc11 := Aside0.mk c11
       clear c11
       obtain ⟨y110, hy110⟩ : ∃ y_ : List Int, y_ = (x3_1 ++ [bt a0 x4_1]) := ⟨_, rfl⟩
       replace H : (selvedgeref04_Small.l0 k1 a0 y110 (wrap64 (x4_1 + 1))) = some r := by first | (rw [hy110]; with_reducible exact H) | (have H2_ := (Option.bind_some _ _).symm.trans H; rw [hy110]; with_reducible exact H2_) | (have H2_ := (Option.bind_some _ _).symm.trans H; with_reducible exact H2_) | with_reducible exact H | (rw [hy110]; exact H) | exact H
       have Ny110 := Aside0.mk hy110
       clear hy110
       have H' := Aside0.mk H
       clear H
       have p4 : 0 ≤ (x4_1 : Int) := of_decide_eq_true (by first | (with_reducible assumption) | assumption)
       have q4 : x4_1 < (a0.size : Int) := of_decide_eq_true (by first | (with_reducible assumption) | assumption)
       have hx4 := bt_at a0 x4_1
       replace p4 := eq_true p4
       replace q4 := eq_true q4
       go_wp2_with (first | ((with_reducible refine gate_builtin (b := .append) (xs := #[.tmp 23, .tmp 25]) rfl ?_); at_builtin; refine Kd.R_append (Kd.int .u8) (w0 := w) w.heap.size rfl (.tmp 23) (.tmp 25) 44 5 (.int .u8 0) 1 rfl Tryz.underlying44 info5 rfl (by decide) (by omega) u3 x3_1 (bt a0 x4_1) [.int .u8 (bt a0 x4_1)] (fun _ => True) (fun _ => False) rfl rfl ?aP (fun _ hk => hk.elim) ?aF ?aO ?aB ?aS ?aL ?_; (case aP => exact rfl); (case aB => exact (by repeat (first | (with_reducible first | exact HB.out | apply below_alloc | apply pw_below_drewN | apply below_drew1) | exact HB.out))); (case aF => exact (fun _ _ => trivial)); (case aO => exact (by (with_reducible repeat (first | apply Kd.R_alloc | apply Kd.R_drewN | apply Kd.R_drew)); exact HO_3.out)); (case aS => exact (below_size (by repeat (first | (with_reducible first | exact HB.out | apply below_alloc | apply pw_below_drewN | apply below_drew1) | exact HB.out)))); (case aL => have := LMc11.out; first | omega | (simp [ByteArray.size]; omega)); intro v111 w12 ho hb hg hat; rw [← Ny110.out] at ho; have n0_ := Aside0.mk (hb); have n1_ := Aside0.mk (ho); clear HB; clear HO_3; have HB := n0_; have HO112 := n1_; clear n0_ n1_; clear ho hb hg hat))
       go_roundg k1
       case measure => have := HK1.out; omega
       case rel => exact ⟨(y110), (wrap64 (x4_1 + 1)), (by first | rfl | (simp; done) | (simp [*]; done) | (simp [bne, List.isEmpty_iff]; done) | (simp [bne, List.isEmpty_iff, *]; done) | (simp [bne]; rfl)), H', ⟨by have := HK1.out; omega⟩, ⟨by (with_reducible repeat (first | apply Kd.R_alloc | apply Kd.R_drewN | apply Kd.R_drew)); exact HO112.out⟩, ⟨by repeat (first | (with_reducible first | exact HB.out | apply below_alloc | apply pw_below_drewN | apply below_drew1) | exact HB.out)⟩⟩
      ·rw [if_neg c11] at H
       exact absurd H (by simp)
    ·rw [if_neg c3] at H
     exact absurd H (by simp)
   ·rw [if_neg c2] at H
    have c2b0 : decide (x4_1 < (a0.size : Int)) = false := decide_eq_false c2
    clear c2
    obtain rfl := Option.some.inj H
    have hcv13 := own_string (P := Tryz.prog) Tryz.underlying44 Tryz.underlying5 Tryz.underlying9 (Kd.own_of_R HO_3.out)
    go_wp2
    go_ret
    exact ⟨by first | rfl | (simp [errW_none, errW_some] <;> rfl) | (simp [*, errW_none, errW_some] <;> rfl), by repeat (first | (with_reducible first | exact HB.out | apply below_alloc | apply pw_below_drewN | apply below_drew1) | exact HB.out)⟩

end Go.Proofs.YtpfhgolamlnhiaaGreatDoor.XR

namespace Go.Proofs.YtpfhgolamlnhiaaGreatDoor.XR
open Go.RowKit Go.Proofs.YtpfhgolamlnhiaaGreatDoor Go.Proofs.YtpfhgolamlnhiaaGreatDoor.XT Go.Proofs.YtpfhgolamlnhiaaGreatDoorW.PrintWords Go.Proofs.YtpfhgolamlnhiaaGreatDoorW.PrintLast Go.Proofs.YtpfhgolamlnhiaaGreatDoorW.PrintMore
attribute [local go_sem] max2_int min2_int max_two min_two max_three min_three max_four min_four   -- for this text's walks alone
set_option linter.unusedVariables false
set_option linter.unusedSimpArgs false

end Go.Proofs.YtpfhgolamlnhiaaGreatDoor.XR
