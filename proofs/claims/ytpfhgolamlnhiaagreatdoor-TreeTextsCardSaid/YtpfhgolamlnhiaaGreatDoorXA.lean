-- Written by wip/tools/px.py for this claim, by way of the kit's print of the translation. Lean checks it.
import Derived.Test.YtpfhgolamlnhiaaGreatDoorXT
import Derived.Test.YtpfhgolamlnhiaaGreatDoorExt1
namespace Go.Proofs.YtpfhgolamlnhiaaGreatDoor.XA
open Go.RowKit Go.Proofs.YtpfhgolamlnhiaaGreatDoor Go.Proofs.YtpfhgolamlnhiaaGreatDoor.XT Go.Proofs.YtpfhgolamlnhiaaGreatDoorW.PrintWords Go.Proofs.YtpfhgolamlnhiaaGreatDoorW.PrintLast Go.Proofs.YtpfhgolamlnhiaaGreatDoorW.PrintMore
attribute [local go_sem] max2_int min2_int max_two min_two max_three min_three max_four min_four   -- for this text's walks alone
set_option linter.unusedVariables false
set_option linter.unusedSimpArgs false

end Go.Proofs.YtpfhgolamlnhiaaGreatDoor.XA

namespace Go.Proofs.YtpfhgolamlnhiaaGreatDoor.XA
open Go.RowKit Go.Proofs.YtpfhgolamlnhiaaGreatDoor Go.Proofs.YtpfhgolamlnhiaaGreatDoor.XT Go.Proofs.YtpfhgolamlnhiaaGreatDoorW.PrintWords Go.Proofs.YtpfhgolamlnhiaaGreatDoorW.PrintLast Go.Proofs.YtpfhgolamlnhiaaGreatDoorW.PrintMore
attribute [local go_sem] max2_int min2_int max_two min_two max_three min_three max_four min_four   -- for this text's walks alone
set_option linter.unusedVariables false
set_option linter.unusedSimpArgs false

/-! ### tree_Kind: function 57 -/
mutual
def tree_Kind.j0 : Nat → ByteArray → Bool → Option (Int)
 | 0, _, _ => none
 | k + 1, x3, x10 => if x10 = true then (some 7) else (if x3.toList = ([104, 114] : List UInt8) then (some 8) else (if x3.toList = ([100, 105, 118] : List UInt8) then (tree_Kind.j1 k x3 (x3.toList == ([100, 105, 118] : List UInt8))) else (if x3.toList = ([117, 108] : List UInt8) then (tree_Kind.j1 k x3 (x3.toList == ([117, 108] : List UInt8))) else (if x3.toList = ([111, 108] : List UInt8) then (tree_Kind.j1 k x3 (x3.toList == ([111, 108] : List UInt8))) else (if x3.toList = ([115, 101, 99, 116, 105, 111, 110] : List UInt8) then (tree_Kind.j1 k x3 (x3.toList == ([115, 101, 99, 116, 105, 111, 110] : List UInt8))) else (if x3.toList = ([97, 114, 116, 105, 99, 108, 101] : List UInt8) then (tree_Kind.j1 k x3 (x3.toList == ([97, 114, 116, 105, 99, 108, 101] : List UInt8))) else (if x3.toList = ([104, 101, 97, 100, 101, 114] : List UInt8) then (tree_Kind.j1 k x3 (x3.toList == ([104, 101, 97, 100, 101, 114] : List UInt8))) else (if x3.toList = ([102, 111, 111, 116, 101, 114] : List UInt8) then (tree_Kind.j1 k x3 (x3.toList == ([102, 111, 111, 116, 101, 114] : List UInt8))) else (if x3.toList = ([109, 97, 105, 110] : List UInt8) then (tree_Kind.j1 k x3 (x3.toList == ([109, 97, 105, 110] : List UInt8))) else (if x3.toList = ([110, 97, 118] : List UInt8) then (tree_Kind.j1 k x3 (x3.toList == ([110, 97, 118] : List UInt8))) else (if x3.toList = ([97, 115, 105, 100, 101] : List UInt8) then (tree_Kind.j1 k x3 (x3.toList == ([97, 115, 105, 100, 101] : List UInt8))) else (if x3.toList = ([98, 108, 111, 99, 107, 113, 117, 111, 116, 101] : List UInt8) then (tree_Kind.j1 k x3 (x3.toList == ([98, 108, 111, 99, 107, 113, 117, 111, 116, 101] : List UInt8))) else (tree_Kind.j1 k x3 (x3.toList == ([102, 105, 103, 117, 114, 101] : List UInt8)))))))))))))))
def tree_Kind.j1 : Nat → ByteArray → Bool → Option (Int)
 | 0, _, _ => none
 | k + 1, x3, x15 => if x15 = true then (some 1) else (if x3.toList = ([104, 49] : List UInt8) then (tree_Kind.j2 k x3 (x3.toList == ([104, 49] : List UInt8))) else (if x3.toList = ([104, 50] : List UInt8) then (tree_Kind.j2 k x3 (x3.toList == ([104, 50] : List UInt8))) else (if x3.toList = ([104, 51] : List UInt8) then (tree_Kind.j2 k x3 (x3.toList == ([104, 51] : List UInt8))) else (if x3.toList = ([104, 52] : List UInt8) then (tree_Kind.j2 k x3 (x3.toList == ([104, 52] : List UInt8))) else (if x3.toList = ([104, 53] : List UInt8) then (tree_Kind.j2 k x3 (x3.toList == ([104, 53] : List UInt8))) else (tree_Kind.j2 k x3 (x3.toList == ([104, 54] : List UInt8))))))))
def tree_Kind.j2 : Nat → ByteArray → Bool → Option (Int)
 | 0, _, _ => none
 | k + 1, x3, x28 => if x28 = true then (some 4) else (if x3.toList = ([115, 112, 97, 110] : List UInt8) then (some 5) else (if x3.toList = ([98] : List UInt8) then (some 5) else (if x3.toList = ([105] : List UInt8) then (some 5) else (if x3.toList = ([101, 109] : List UInt8) then (some 5) else (if x3.toList = ([115, 116, 114, 111, 110, 103] : List UInt8) then (some 5) else (if x3.toList = ([117] : List UInt8) then (some 5) else (if x3.toList = ([115] : List UInt8) then (some 5) else (if x3.toList = ([115, 109, 97, 108, 108] : List UInt8) then (some 5) else (if x3.toList = ([99, 111, 100, 101] : List UInt8) then (some 5) else (if x3.toList = ([98, 100, 105] : List UInt8) then (some 5) else (if x3.toList = ([98, 100, 111] : List UInt8) then (some 5) else (if x3.toList = ([97, 98, 98, 114] : List UInt8) then (some 5) else (if x3.toList = ([99, 105, 116, 101] : List UInt8) then (some 5) else (if x3.toList = ([113] : List UInt8) then (some 5) else (if x3.toList = ([115, 117, 98] : List UInt8) then (some 5) else (if x3.toList = ([115, 117, 112] : List UInt8) then (some 5) else (if x3.toList = ([109, 97, 114, 107] : List UInt8) then (some 5) else (some 0))))))))))))))))))
end
def tree_Kind.f (k : Nat) (a0 : ByteArray) : Option (Int) := if a0.toList = ([112] : List UInt8) then (some 2) else (if a0.toList = ([108, 105] : List UInt8) then (some 3) else (if a0.toList = ([97] : List UInt8) then (some 6) else (if a0.toList = ([98, 114] : List UInt8) then (tree_Kind.j0 k a0 (a0.toList == ([98, 114] : List UInt8))) else (tree_Kind.j0 k a0 (a0.toList == ([119, 98, 114] : List UInt8))))))
theorem tree_Kind.mono_l : ∀ k, (∀ y0 y1, LeO (tree_Kind.j0 k y0 y1) (tree_Kind.j0 (k + 1) y0 y1)) ∧ (∀ y0 y1, LeO (tree_Kind.j1 k y0 y1) (tree_Kind.j1 (k + 1) y0 y1)) ∧ (∀ y0 y1, LeO (tree_Kind.j2 k y0 y1) (tree_Kind.j2 (k + 1) y0 y1))
 | 0 => ⟨fun _ _ r h => by simp [tree_Kind.j0] at h, fun _ _ r h => by simp [tree_Kind.j1] at h, fun _ _ r h => by simp [tree_Kind.j2] at h⟩
 | k + 1 => by
  obtain ⟨ih0, ih1, ih2⟩ := tree_Kind.mono_l k
  refine ⟨?_, ?_, ?_⟩
  ·intro y0 y1
   unfold tree_Kind.j0
   repeat' first
   | (with_reducible exact ih0 _ _)
   | (with_reducible exact ih1 _ _)
   | (with_reducible exact ih2 _ _)
   | (with_reducible exact LeO.refl _)
   | (with_reducible exact LeO.none _)
   | (with_reducible refine LeO.ite ?_ ?_)
   | (with_reducible refine LeO.bind ?_ (fun _ => ?_))
   | exact ih0 _ _
   | exact ih1 _ _
   | exact ih2 _ _
   | exact LeO.none _
   | refine LeO.ite ?_ ?_
   | refine LeO.bind ?_ (fun _ => ?_)
  ·intro y0 y1
   unfold tree_Kind.j1
   repeat' first
   | (with_reducible exact ih0 _ _)
   | (with_reducible exact ih1 _ _)
   | (with_reducible exact ih2 _ _)
   | (with_reducible exact LeO.refl _)
   | (with_reducible exact LeO.none _)
   | (with_reducible refine LeO.ite ?_ ?_)
   | (with_reducible refine LeO.bind ?_ (fun _ => ?_))
   | exact ih0 _ _
   | exact ih1 _ _
   | exact ih2 _ _
   | exact LeO.none _
   | refine LeO.ite ?_ ?_
   | refine LeO.bind ?_ (fun _ => ?_)
  ·intro y0 y1
   unfold tree_Kind.j2
   repeat' first
   | (with_reducible exact ih0 _ _)
   | (with_reducible exact ih1 _ _)
   | (with_reducible exact ih2 _ _)
   | (with_reducible exact LeO.refl _)
   | (with_reducible exact LeO.none _)
   | (with_reducible refine LeO.ite ?_ ?_)
   | (with_reducible refine LeO.bind ?_ (fun _ => ?_))
   | exact ih0 _ _
   | exact ih1 _ _
   | exact ih2 _ _
   | exact LeO.none _
   | refine LeO.ite ?_ ?_
   | refine LeO.bind ?_ (fun _ => ?_)
theorem tree_Kind.mono : ∀ a0 k, LeO (tree_Kind.f k a0) (tree_Kind.f (k + 1) a0) := by
 intro a0 k
 obtain ⟨ih0, ih1, ih2⟩ := tree_Kind.mono_l k
 unfold tree_Kind.f
 repeat' first
   | (with_reducible exact ih0 _ _)
   | (with_reducible exact ih1 _ _)
   | (with_reducible exact ih2 _ _)
   | (with_reducible exact LeO.refl _)
   | (with_reducible exact LeO.none _)
   | (with_reducible refine LeO.ite ?_ ?_)
   | (with_reducible refine LeO.bind ?_ (fun _ => ?_))
   | exact ih0 _ _
   | exact ih1 _ _
   | exact ih2 _ _
   | exact LeO.none _
   | refine LeO.ite ?_ ?_
   | refine LeO.bind ?_ (fun _ => ?_)
set_option maxHeartbeats 80000000 in
set_option maxRecDepth 100000 in
theorem tree_Kind.calls (k : Nat) (a0 : ByteArray) (r : Int) (w : World) (h : tree_Kind.f k a0 = some r) :
  Calls Tryz.prog 57 #[.string a0] w fun e w' => e = .returned (.int .u8 r) ∧ Drawn0 w w' := by
 have H : (if a0.toList = ([112] : List UInt8) then (some 2) else (if a0.toList = ([108, 105] : List UInt8) then (some 3) else (if a0.toList = ([97] : List UInt8) then (some 6) else (if a0.toList = ([98, 114] : List UInt8) then (tree_Kind.j0 k a0 (a0.toList == ([98, 114] : List UInt8))) else (tree_Kind.j0 k a0 (a0.toList == ([119, 98, 114] : List UInt8))))))) = some r := h
 clear h
 by_cases c2 : a0.toList = ([112] : List UInt8)
 ·rw [if_pos c2] at H
  have c2b0 : (a0.toList == ([112] : List UInt8)) = true := beq_iff_eq.mpr c2
  have c2b1 : (a0.toList != ([112] : List UInt8)) = false := bne_eq_false_iff_eq.mpr c2
  clear c2
  obtain rfl := Option.some.inj H
  go_enter Tryz.func57, Tryz.ntmps57
  go_wp2
  go_ret
  exact ⟨by first | rfl | (simp; done) | (simp [*]; done) | (simp [bne, List.isEmpty_iff]; done) | (simp [bne, List.isEmpty_iff, *]; done) | (simp [bne]; rfl), by repeat (first | exact Drawn0.refl _ | apply Drawn0.step)⟩
 ·rw [if_neg c2] at H
  have c2b0 : (a0.toList == ([112] : List UInt8)) = false := beq_eq_false_iff_ne.mpr c2
  have c2b1 : (a0.toList != ([112] : List UInt8)) = true := bne_iff_ne.mpr c2
  by_cases c3 : a0.toList = ([108, 105] : List UInt8)
  ·rw [if_pos c3] at H
   have c3b0 : (a0.toList == ([108, 105] : List UInt8)) = true := beq_iff_eq.mpr c3
   have c3b1 : (a0.toList != ([108, 105] : List UInt8)) = false := bne_eq_false_iff_eq.mpr c3
   clear c3
   obtain rfl := Option.some.inj H
   go_enter Tryz.func57, Tryz.ntmps57
   go_wp2
   go_ret
   exact ⟨by first | rfl | (simp; done) | (simp [*]; done) | (simp [bne, List.isEmpty_iff]; done) | (simp [bne, List.isEmpty_iff, *]; done) | (simp [bne]; rfl), by repeat (first | exact Drawn0.refl _ | apply Drawn0.step)⟩
  ·rw [if_neg c3] at H
   have c3b0 : (a0.toList == ([108, 105] : List UInt8)) = false := beq_eq_false_iff_ne.mpr c3
   have c3b1 : (a0.toList != ([108, 105] : List UInt8)) = true := bne_iff_ne.mpr c3
   by_cases c4 : a0.toList = ([97] : List UInt8)
   ·rw [if_pos c4] at H
    have c4b0 : (a0.toList == ([97] : List UInt8)) = true := beq_iff_eq.mpr c4
    have c4b1 : (a0.toList != ([97] : List UInt8)) = false := bne_eq_false_iff_eq.mpr c4
    clear c4
    obtain rfl := Option.some.inj H
    go_enter Tryz.func57, Tryz.ntmps57
    go_wp2
    go_ret
    exact ⟨by first | rfl | (simp; done) | (simp [*]; done) | (simp [bne, List.isEmpty_iff]; done) | (simp [bne, List.isEmpty_iff, *]; done) | (simp [bne]; rfl), by repeat (first | exact Drawn0.refl _ | apply Drawn0.step)⟩
   ·rw [if_neg c4] at H
    have c4b0 : (a0.toList == ([97] : List UInt8)) = false := beq_eq_false_iff_ne.mpr c4
    have c4b1 : (a0.toList != ([97] : List UInt8)) = true := bne_iff_ne.mpr c4
    have HC5 := Aside0.mk H
    clear H
    go_enter Tryz.func57, Tryz.ntmps57
    go_upto_if 10 with (fail)
    go_cut [10] (fun v10 wc => ∃ (kq : Nat) (x10_4 : Bool), v10 = .bool x10_4 ∧ Aside0 (tree_Kind.j0 kq a0 x10_4 = some r) ∧ Aside0 (kq ≤ k) ∧ Drawn0 w wc)
    case first =>
     have H := HC5.out
     clear HC5
     by_cases c6 : a0.toList = ([98, 114] : List UInt8)
     ·rw [if_pos c6] at H
      have c6b0 : (a0.toList == ([98, 114] : List UInt8)) = true := beq_iff_eq.mpr c6
      have c6b1 : (a0.toList != ([98, 114] : List UInt8)) = false := bne_eq_false_iff_eq.mpr c6
      clear c6
      (first | rw [c6b0] | (simp only [i64_w, i32_w]; rw [c6b0]) | skip)
      have H' := Aside0.mk H
      clear H
      go_wp2
      go_meet
      case rel => exact ⟨_, ((a0.toList == ([98, 114] : List UInt8))), (by first | rfl | (simp; done) | (simp [*]; done) | (simp [bne, List.isEmpty_iff]; done) | (simp [bne, List.isEmpty_iff, *]; done) | (simp [bne]; rfl)), H', ⟨by first | omega | exact Nat.le_refl _⟩, by repeat (first | exact Drawn0.refl _ | apply Drawn0.step)⟩
     ·rw [if_neg c6] at H
      have c6b0 : (a0.toList == ([98, 114] : List UInt8)) = false := beq_eq_false_iff_ne.mpr c6
      have c6b1 : (a0.toList != ([98, 114] : List UInt8)) = true := bne_iff_ne.mpr c6
      (first | rw [c6b0] | (simp only [i64_w, i32_w]; rw [c6b0]) | skip)
      have H' := Aside0.mk H
      clear H
      go_wp2
      go_meet
      case rel => exact ⟨_, ((a0.toList == ([119, 98, 114] : List UInt8))), (by first | rfl | (simp; done) | (simp [*]; done) | (simp [bne, List.isEmpty_iff]; done) | (simp [bne, List.isEmpty_iff, *]; done) | (simp [bne]; rfl)), H', ⟨by first | omega | exact Nat.le_refl _⟩, by repeat (first | exact Drawn0.refl _ | apply Drawn0.step)⟩
    case rest =>
     clear HC5
     try clear c2
     try clear c2b0
     try clear c2b1
     try clear p2
     try clear c3
     try clear c3b0
     try clear c3b1
     try clear c4
     try clear c4b0
     try clear c4b1
     try clear c5
     try clear c6
     try clear c6b0
     try clear c6b1
     obtain ⟨kq, x10_4, rfl, HA, HJ4, ⟨mc4, rfl⟩⟩ := hcut
     cases kq with
     | zero => exact absurd HA.out (by simp [tree_Kind.j0])
     | succ kj4 =>
      have H := HA.out
      clear HA
      simp only [tree_Kind.j0] at H
      by_cases c7 : x10_4 = true
      ·subst c7
       have H1 : (some 7) = some r := by rw [if_pos rfl] at H; exact H
       clear H
       have H := H1
       clear H1
       obtain rfl := Option.some.inj H
       go_wp2
       go_ret
       exact ⟨by first | rfl | (simp; done) | (simp [*]; done) | (simp [bne, List.isEmpty_iff]; done) | (simp [bne, List.isEmpty_iff, *]; done) | (simp [bne]; rfl), by repeat (first | exact Drawn0.refl _ | apply Drawn0.step)⟩
      ·replace c7 := Bool.eq_false_iff.mpr c7
       subst c7
       have H1 : (if a0.toList = ([104, 114] : List UInt8) then (some 8) else (if a0.toList = ([100, 105, 118] : List UInt8) then (tree_Kind.j1 kj4 a0 (a0.toList == ([100, 105, 118] : List UInt8))) else (if a0.toList = ([117, 108] : List UInt8) then (tree_Kind.j1 kj4 a0 (a0.toList == ([117, 108] : List UInt8))) else (if a0.toList = ([111, 108] : List UInt8) then (tree_Kind.j1 kj4 a0 (a0.toList == ([111, 108] : List UInt8))) else (if a0.toList = ([115, 101, 99, 116, 105, 111, 110] : List UInt8) then (tree_Kind.j1 kj4 a0 (a0.toList == ([115, 101, 99, 116, 105, 111, 110] : List UInt8))) else (if a0.toList = ([97, 114, 116, 105, 99, 108, 101] : List UInt8) then (tree_Kind.j1 kj4 a0 (a0.toList == ([97, 114, 116, 105, 99, 108, 101] : List UInt8))) else (if a0.toList = ([104, 101, 97, 100, 101, 114] : List UInt8) then (tree_Kind.j1 kj4 a0 (a0.toList == ([104, 101, 97, 100, 101, 114] : List UInt8))) else (if a0.toList = ([102, 111, 111, 116, 101, 114] : List UInt8) then (tree_Kind.j1 kj4 a0 (a0.toList == ([102, 111, 111, 116, 101, 114] : List UInt8))) else (if a0.toList = ([109, 97, 105, 110] : List UInt8) then (tree_Kind.j1 kj4 a0 (a0.toList == ([109, 97, 105, 110] : List UInt8))) else (if a0.toList = ([110, 97, 118] : List UInt8) then (tree_Kind.j1 kj4 a0 (a0.toList == ([110, 97, 118] : List UInt8))) else (if a0.toList = ([97, 115, 105, 100, 101] : List UInt8) then (tree_Kind.j1 kj4 a0 (a0.toList == ([97, 115, 105, 100, 101] : List UInt8))) else (if a0.toList = ([98, 108, 111, 99, 107, 113, 117, 111, 116, 101] : List UInt8) then (tree_Kind.j1 kj4 a0 (a0.toList == ([98, 108, 111, 99, 107, 113, 117, 111, 116, 101] : List UInt8))) else (tree_Kind.j1 kj4 a0 (a0.toList == ([102, 105, 103, 117, 114, 101] : List UInt8))))))))))))))) = some r := by rw [if_neg (show ¬ (false = true) by decide)] at H; exact H
       clear H
       have H := H1
       clear H1
       by_cases c8 : a0.toList = ([104, 114] : List UInt8)
       ·rw [if_pos c8] at H
        have c8b0 : (a0.toList == ([104, 114] : List UInt8)) = true := beq_iff_eq.mpr c8
        have c8b1 : (a0.toList != ([104, 114] : List UInt8)) = false := bne_eq_false_iff_eq.mpr c8
        clear c8
        obtain rfl := Option.some.inj H
        go_wp2
        go_ret
        exact ⟨by first | rfl | (simp; done) | (simp [*]; done) | (simp [bne, List.isEmpty_iff]; done) | (simp [bne, List.isEmpty_iff, *]; done) | (simp [bne]; rfl), by repeat (first | exact Drawn0.refl _ | apply Drawn0.step)⟩
       ·rw [if_neg c8] at H
        have c8b0 : (a0.toList == ([104, 114] : List UInt8)) = false := beq_eq_false_iff_ne.mpr c8
        have c8b1 : (a0.toList != ([104, 114] : List UInt8)) = true := bne_iff_ne.mpr c8
        have HC9 := Aside0.mk H
        clear H
        go_upto_if 15 with (fail)
        go_cut [15] (fun v15 wc => ∃ (kq : Nat) (x15_8 : Bool), v15 = .bool x15_8 ∧ Aside0 (tree_Kind.j1 kq a0 x15_8 = some r) ∧ Aside0 (kq ≤ kj4) ∧ Drawn0 w wc)
        case first =>
         have H := HC9.out
         clear HC9
         by_cases c10 : a0.toList = ([100, 105, 118] : List UInt8)
         ·rw [if_pos c10] at H
          have c10b0 : (a0.toList == ([100, 105, 118] : List UInt8)) = true := beq_iff_eq.mpr c10
          have c10b1 : (a0.toList != ([100, 105, 118] : List UInt8)) = false := bne_eq_false_iff_eq.mpr c10
          clear c10
          (first | rw [c10b0] | (simp only [i64_w, i32_w]; rw [c10b0]) | skip)
          have H' := Aside0.mk H
          clear H
          go_wp2
          go_meet
          case rel => exact ⟨_, ((a0.toList == ([100, 105, 118] : List UInt8))), (by first | rfl | (simp; done) | (simp [*]; done) | (simp [bne, List.isEmpty_iff]; done) | (simp [bne, List.isEmpty_iff, *]; done) | (simp [bne]; rfl)), H', ⟨by have := HJ4.out; first | omega | exact Nat.le_refl _⟩, by repeat (first | exact Drawn0.refl _ | apply Drawn0.step)⟩
         ·rw [if_neg c10] at H
          have c10b0 : (a0.toList == ([100, 105, 118] : List UInt8)) = false := beq_eq_false_iff_ne.mpr c10
          have c10b1 : (a0.toList != ([100, 105, 118] : List UInt8)) = true := bne_iff_ne.mpr c10
          (first | rw [c10b0] | (simp only [i64_w, i32_w]; rw [c10b0]) | skip)
          by_cases c11 : a0.toList = ([117, 108] : List UInt8)
          ·rw [if_pos c11] at H
           have c11b0 : (a0.toList == ([117, 108] : List UInt8)) = true := beq_iff_eq.mpr c11
           have c11b1 : (a0.toList != ([117, 108] : List UInt8)) = false := bne_eq_false_iff_eq.mpr c11
           clear c11
           have H' := Aside0.mk H
           clear H
           go_wp2
           go_meet
           case rel => exact ⟨_, ((a0.toList == ([117, 108] : List UInt8))), (by first | rfl | (simp; done) | (simp [*]; done) | (simp [bne, List.isEmpty_iff]; done) | (simp [bne, List.isEmpty_iff, *]; done) | (simp [bne]; rfl)), H', ⟨by have := HJ4.out; first | omega | exact Nat.le_refl _⟩, by repeat (first | exact Drawn0.refl _ | apply Drawn0.step)⟩
          ·rw [if_neg c11] at H
           have c11b0 : (a0.toList == ([117, 108] : List UInt8)) = false := beq_eq_false_iff_ne.mpr c11
           have c11b1 : (a0.toList != ([117, 108] : List UInt8)) = true := bne_iff_ne.mpr c11
           by_cases c12 : a0.toList = ([111, 108] : List UInt8)
           ·rw [if_pos c12] at H
            have c12b0 : (a0.toList == ([111, 108] : List UInt8)) = true := beq_iff_eq.mpr c12
            have c12b1 : (a0.toList != ([111, 108] : List UInt8)) = false := bne_eq_false_iff_eq.mpr c12
            clear c12
            have H' := Aside0.mk H
            clear H
            go_wp2
            go_meet
            case rel => exact ⟨_, ((a0.toList == ([111, 108] : List UInt8))), (by first | rfl | (simp; done) | (simp [*]; done) | (simp [bne, List.isEmpty_iff]; done) | (simp [bne, List.isEmpty_iff, *]; done) | (simp [bne]; rfl)), H', ⟨by have := HJ4.out; first | omega | exact Nat.le_refl _⟩, by repeat (first | exact Drawn0.refl _ | apply Drawn0.step)⟩
           ·rw [if_neg c12] at H
            have c12b0 : (a0.toList == ([111, 108] : List UInt8)) = false := beq_eq_false_iff_ne.mpr c12
            have c12b1 : (a0.toList != ([111, 108] : List UInt8)) = true := bne_iff_ne.mpr c12
            by_cases c13 : a0.toList = ([115, 101, 99, 116, 105, 111, 110] : List UInt8)
            ·rw [if_pos c13] at H
             have c13b0 : (a0.toList == ([115, 101, 99, 116, 105, 111, 110] : List UInt8)) = true := beq_iff_eq.mpr c13
             have c13b1 : (a0.toList != ([115, 101, 99, 116, 105, 111, 110] : List UInt8)) = false := bne_eq_false_iff_eq.mpr c13
             clear c13
             have H' := Aside0.mk H
             clear H
             go_wp2
             go_meet
             case rel => exact ⟨_, ((a0.toList == ([115, 101, 99, 116, 105, 111, 110] : List UInt8))), (by first | rfl | (simp; done) | (simp [*]; done) | (simp [bne, List.isEmpty_iff]; done) | (simp [bne, List.isEmpty_iff, *]; done) | (simp [bne]; rfl)), H', ⟨by have := HJ4.out; first | omega | exact Nat.le_refl _⟩, by repeat (first | exact Drawn0.refl _ | apply Drawn0.step)⟩
            ·rw [if_neg c13] at H
             have c13b0 : (a0.toList == ([115, 101, 99, 116, 105, 111, 110] : List UInt8)) = false := beq_eq_false_iff_ne.mpr c13
             have c13b1 : (a0.toList != ([115, 101, 99, 116, 105, 111, 110] : List UInt8)) = true := bne_iff_ne.mpr c13
             by_cases c14 : a0.toList = ([97, 114, 116, 105, 99, 108, 101] : List UInt8)
             ·rw [if_pos c14] at H
              have c14b0 : (a0.toList == ([97, 114, 116, 105, 99, 108, 101] : List UInt8)) = true := beq_iff_eq.mpr c14
              have c14b1 : (a0.toList != ([97, 114, 116, 105, 99, 108, 101] : List UInt8)) = false := bne_eq_false_iff_eq.mpr c14
              clear c14
              have H' := Aside0.mk H
              clear H
              go_wp2
              go_meet
              case rel => exact ⟨_, ((a0.toList == ([97, 114, 116, 105, 99, 108, 101] : List UInt8))), (by first | rfl | (simp; done) | (simp [*]; done) | (simp [bne, List.isEmpty_iff]; done) | (simp [bne, List.isEmpty_iff, *]; done) | (simp [bne]; rfl)), H', ⟨by have := HJ4.out; first | omega | exact Nat.le_refl _⟩, by repeat (first | exact Drawn0.refl _ | apply Drawn0.step)⟩
             ·rw [if_neg c14] at H
              have c14b0 : (a0.toList == ([97, 114, 116, 105, 99, 108, 101] : List UInt8)) = false := beq_eq_false_iff_ne.mpr c14
              have c14b1 : (a0.toList != ([97, 114, 116, 105, 99, 108, 101] : List UInt8)) = true := bne_iff_ne.mpr c14
              by_cases c15 : a0.toList = ([104, 101, 97, 100, 101, 114] : List UInt8)
              ·rw [if_pos c15] at H
               have c15b0 : (a0.toList == ([104, 101, 97, 100, 101, 114] : List UInt8)) = true := beq_iff_eq.mpr c15
               have c15b1 : (a0.toList != ([104, 101, 97, 100, 101, 114] : List UInt8)) = false := bne_eq_false_iff_eq.mpr c15
               clear c15
               have H' := Aside0.mk H
               clear H
               go_wp2
               go_meet
               case rel => exact ⟨_, ((a0.toList == ([104, 101, 97, 100, 101, 114] : List UInt8))), (by first | rfl | (simp; done) | (simp [*]; done) | (simp [bne, List.isEmpty_iff]; done) | (simp [bne, List.isEmpty_iff, *]; done) | (simp [bne]; rfl)), H', ⟨by have := HJ4.out; first | omega | exact Nat.le_refl _⟩, by repeat (first | exact Drawn0.refl _ | apply Drawn0.step)⟩
              ·rw [if_neg c15] at H
               have c15b0 : (a0.toList == ([104, 101, 97, 100, 101, 114] : List UInt8)) = false := beq_eq_false_iff_ne.mpr c15
               have c15b1 : (a0.toList != ([104, 101, 97, 100, 101, 114] : List UInt8)) = true := bne_iff_ne.mpr c15
               by_cases c16 : a0.toList = ([102, 111, 111, 116, 101, 114] : List UInt8)
               ·rw [if_pos c16] at H
                have c16b0 : (a0.toList == ([102, 111, 111, 116, 101, 114] : List UInt8)) = true := beq_iff_eq.mpr c16
                have c16b1 : (a0.toList != ([102, 111, 111, 116, 101, 114] : List UInt8)) = false := bne_eq_false_iff_eq.mpr c16
                clear c16
                have H' := Aside0.mk H
                clear H
                go_wp2
                go_meet
                case rel => exact ⟨_, ((a0.toList == ([102, 111, 111, 116, 101, 114] : List UInt8))), (by first | rfl | (simp; done) | (simp [*]; done) | (simp [bne, List.isEmpty_iff]; done) | (simp [bne, List.isEmpty_iff, *]; done) | (simp [bne]; rfl)), H', ⟨by have := HJ4.out; first | omega | exact Nat.le_refl _⟩, by repeat (first | exact Drawn0.refl _ | apply Drawn0.step)⟩
               ·rw [if_neg c16] at H
                have c16b0 : (a0.toList == ([102, 111, 111, 116, 101, 114] : List UInt8)) = false := beq_eq_false_iff_ne.mpr c16
                have c16b1 : (a0.toList != ([102, 111, 111, 116, 101, 114] : List UInt8)) = true := bne_iff_ne.mpr c16
                by_cases c17 : a0.toList = ([109, 97, 105, 110] : List UInt8)
                ·rw [if_pos c17] at H
                 have c17b0 : (a0.toList == ([109, 97, 105, 110] : List UInt8)) = true := beq_iff_eq.mpr c17
                 have c17b1 : (a0.toList != ([109, 97, 105, 110] : List UInt8)) = false := bne_eq_false_iff_eq.mpr c17
                 clear c17
                 have H' := Aside0.mk H
                 clear H
                 go_wp2
                 go_meet
                 case rel => exact ⟨_, ((a0.toList == ([109, 97, 105, 110] : List UInt8))), (by first | rfl | (simp; done) | (simp [*]; done) | (simp [bne, List.isEmpty_iff]; done) | (simp [bne, List.isEmpty_iff, *]; done) | (simp [bne]; rfl)), H', ⟨by have := HJ4.out; first | omega | exact Nat.le_refl _⟩, by repeat (first | exact Drawn0.refl _ | apply Drawn0.step)⟩
                ·rw [if_neg c17] at H
                 have c17b0 : (a0.toList == ([109, 97, 105, 110] : List UInt8)) = false := beq_eq_false_iff_ne.mpr c17
                 have c17b1 : (a0.toList != ([109, 97, 105, 110] : List UInt8)) = true := bne_iff_ne.mpr c17
                 by_cases c18 : a0.toList = ([110, 97, 118] : List UInt8)
                 ·rw [if_pos c18] at H
                  have c18b0 : (a0.toList == ([110, 97, 118] : List UInt8)) = true := beq_iff_eq.mpr c18
                  have c18b1 : (a0.toList != ([110, 97, 118] : List UInt8)) = false := bne_eq_false_iff_eq.mpr c18
                  clear c18
                  have H' := Aside0.mk H
                  clear H
                  go_wp2
                  go_meet
                  case rel => exact ⟨_, ((a0.toList == ([110, 97, 118] : List UInt8))), (by first | rfl | (simp; done) | (simp [*]; done) | (simp [bne, List.isEmpty_iff]; done) | (simp [bne, List.isEmpty_iff, *]; done) | (simp [bne]; rfl)), H', ⟨by have := HJ4.out; first | omega | exact Nat.le_refl _⟩, by repeat (first | exact Drawn0.refl _ | apply Drawn0.step)⟩
                 ·rw [if_neg c18] at H
                  have c18b0 : (a0.toList == ([110, 97, 118] : List UInt8)) = false := beq_eq_false_iff_ne.mpr c18
                  have c18b1 : (a0.toList != ([110, 97, 118] : List UInt8)) = true := bne_iff_ne.mpr c18
                  by_cases c19 : a0.toList = ([97, 115, 105, 100, 101] : List UInt8)
                  ·rw [if_pos c19] at H
                   have c19b0 : (a0.toList == ([97, 115, 105, 100, 101] : List UInt8)) = true := beq_iff_eq.mpr c19
                   have c19b1 : (a0.toList != ([97, 115, 105, 100, 101] : List UInt8)) = false := bne_eq_false_iff_eq.mpr c19
                   clear c19
                   have H' := Aside0.mk H
                   clear H
                   go_wp2
                   go_meet
                   case rel => exact ⟨_, ((a0.toList == ([97, 115, 105, 100, 101] : List UInt8))), (by first | rfl | (simp; done) | (simp [*]; done) | (simp [bne, List.isEmpty_iff]; done) | (simp [bne, List.isEmpty_iff, *]; done) | (simp [bne]; rfl)), H', ⟨by have := HJ4.out; first | omega | exact Nat.le_refl _⟩, by repeat (first | exact Drawn0.refl _ | apply Drawn0.step)⟩
                  ·rw [if_neg c19] at H
                   have c19b0 : (a0.toList == ([97, 115, 105, 100, 101] : List UInt8)) = false := beq_eq_false_iff_ne.mpr c19
                   have c19b1 : (a0.toList != ([97, 115, 105, 100, 101] : List UInt8)) = true := bne_iff_ne.mpr c19
                   by_cases c20 : a0.toList = ([98, 108, 111, 99, 107, 113, 117, 111, 116, 101] : List UInt8)
                   ·rw [if_pos c20] at H
                    have c20b0 : (a0.toList == ([98, 108, 111, 99, 107, 113, 117, 111, 116, 101] : List UInt8)) = true := beq_iff_eq.mpr c20
                    have c20b1 : (a0.toList != ([98, 108, 111, 99, 107, 113, 117, 111, 116, 101] : List UInt8)) = false := bne_eq_false_iff_eq.mpr c20
                    clear c20
                    have H' := Aside0.mk H
                    clear H
                    go_wp2
                    go_meet
                    case rel => exact ⟨_, ((a0.toList == ([98, 108, 111, 99, 107, 113, 117, 111, 116, 101] : List UInt8))), (by first | rfl | (simp; done) | (simp [*]; done) | (simp [bne, List.isEmpty_iff]; done) | (simp [bne, List.isEmpty_iff, *]; done) | (simp [bne]; rfl)), H', ⟨by have := HJ4.out; first | omega | exact Nat.le_refl _⟩, by repeat (first | exact Drawn0.refl _ | apply Drawn0.step)⟩
                   ·rw [if_neg c20] at H
                    have c20b0 : (a0.toList == ([98, 108, 111, 99, 107, 113, 117, 111, 116, 101] : List UInt8)) = false := beq_eq_false_iff_ne.mpr c20
                    have c20b1 : (a0.toList != ([98, 108, 111, 99, 107, 113, 117, 111, 116, 101] : List UInt8)) = true := bne_iff_ne.mpr c20
                    have H' := Aside0.mk H
                    clear H
                    go_wp2
                    go_meet
                    case rel => exact ⟨_, ((a0.toList == ([102, 105, 103, 117, 114, 101] : List UInt8))), (by first | rfl | (simp; done) | (simp [*]; done) | (simp [bne, List.isEmpty_iff]; done) | (simp [bne, List.isEmpty_iff, *]; done) | (simp [bne]; rfl)), H', ⟨by have := HJ4.out; first | omega | exact Nat.le_refl _⟩, by repeat (first | exact Drawn0.refl _ | apply Drawn0.step)⟩
        case rest =>
         clear HC9
         try clear c1
         try clear c2
         try clear c2b0
         try clear c2b1
         try clear p2
         try clear c3
         try clear c3b0
         try clear c3b1
         try clear c4
         try clear c4b0
         try clear c4b1
         try clear c5
         try clear c6
         try clear c6b0
         try clear c6b1
         try clear c7
         try clear c8
         try clear c8b0
         try clear c8b1
         try clear c10
         try clear c10b0
         try clear c10b1
         try clear c11
         try clear c11b0
         try clear c11b1
         try clear c12
         try clear c12b0
         try clear c12b1
         try clear c13
         try clear c13b0
         try clear c13b1
         try clear c14
         try clear c14b0
         try clear c14b1
         try clear c15
         try clear c15b0
         try clear c15b1
         try clear c16
         try clear c16b0
         try clear c16b1
         try clear c17
         try clear c17b0
         try clear c17b1
         try clear c18
         try clear c18b0
         try clear c18b1
         try clear c19
         try clear c19b0
         try clear c19b1
         try clear c20
         try clear c20b0
         try clear c20b1
         try clear p2
         obtain ⟨kq, x15_8, rfl, HA, HJ8, ⟨mc8, rfl⟩⟩ := hcut
         cases kq with
         | zero => exact absurd HA.out (by simp [tree_Kind.j1])
         | succ kj8 =>
          have H := HA.out
          clear HA
          simp only [tree_Kind.j1] at H
          by_cases c21 : x15_8 = true
          ·subst c21
           have H1 : (some 1) = some r := by rw [if_pos rfl] at H; exact H
           clear H
           have H := H1
           clear H1
           obtain rfl := Option.some.inj H
           go_wp2
           go_ret
           exact ⟨by first | rfl | (simp; done) | (simp [*]; done) | (simp [bne, List.isEmpty_iff]; done) | (simp [bne, List.isEmpty_iff, *]; done) | (simp [bne]; rfl), by repeat (first | exact Drawn0.refl _ | apply Drawn0.step)⟩
          ·replace c21 := Bool.eq_false_iff.mpr c21
           subst c21
           have H1 : (if a0.toList = ([104, 49] : List UInt8) then (tree_Kind.j2 kj8 a0 (a0.toList == ([104, 49] : List UInt8))) else (if a0.toList = ([104, 50] : List UInt8) then (tree_Kind.j2 kj8 a0 (a0.toList == ([104, 50] : List UInt8))) else (if a0.toList = ([104, 51] : List UInt8) then (tree_Kind.j2 kj8 a0 (a0.toList == ([104, 51] : List UInt8))) else (if a0.toList = ([104, 52] : List UInt8) then (tree_Kind.j2 kj8 a0 (a0.toList == ([104, 52] : List UInt8))) else (if a0.toList = ([104, 53] : List UInt8) then (tree_Kind.j2 kj8 a0 (a0.toList == ([104, 53] : List UInt8))) else (tree_Kind.j2 kj8 a0 (a0.toList == ([104, 54] : List UInt8)))))))) = some r := by rw [if_neg (show ¬ (false = true) by decide)] at H; exact H
           clear H
           have H := H1
           clear H1
           have HC22 := Aside0.mk H
           clear H
           go_upto_if 28 with (fail)
           go_cut [28] (fun v28 wc => ∃ (kq : Nat) (x28_21 : Bool), v28 = .bool x28_21 ∧ Aside0 (tree_Kind.j2 kq a0 x28_21 = some r) ∧ Aside0 (kq ≤ kj8) ∧ Drawn0 w wc)
           case first =>
            have H := HC22.out
            clear HC22
            by_cases c23 : a0.toList = ([104, 49] : List UInt8)
            ·rw [if_pos c23] at H
             have c23b0 : (a0.toList == ([104, 49] : List UInt8)) = true := beq_iff_eq.mpr c23
             have c23b1 : (a0.toList != ([104, 49] : List UInt8)) = false := bne_eq_false_iff_eq.mpr c23
             clear c23
             (first | rw [c23b0] | (simp only [i64_w, i32_w]; rw [c23b0]) | skip)
             have H' := Aside0.mk H
             clear H
             go_wp2
             go_meet
             case rel => exact ⟨_, ((a0.toList == ([104, 49] : List UInt8))), (by first | rfl | (simp; done) | (simp [*]; done) | (simp [bne, List.isEmpty_iff]; done) | (simp [bne, List.isEmpty_iff, *]; done) | (simp [bne]; rfl)), H', ⟨by have := HJ4.out; have := HJ8.out; first | omega | exact Nat.le_refl _⟩, by repeat (first | exact Drawn0.refl _ | apply Drawn0.step)⟩
            ·rw [if_neg c23] at H
             have c23b0 : (a0.toList == ([104, 49] : List UInt8)) = false := beq_eq_false_iff_ne.mpr c23
             have c23b1 : (a0.toList != ([104, 49] : List UInt8)) = true := bne_iff_ne.mpr c23
             (first | rw [c23b0] | (simp only [i64_w, i32_w]; rw [c23b0]) | skip)
             by_cases c24 : a0.toList = ([104, 50] : List UInt8)
             ·rw [if_pos c24] at H
              have c24b0 : (a0.toList == ([104, 50] : List UInt8)) = true := beq_iff_eq.mpr c24
              have c24b1 : (a0.toList != ([104, 50] : List UInt8)) = false := bne_eq_false_iff_eq.mpr c24
              clear c24
              have H' := Aside0.mk H
              clear H
              go_wp2
              go_meet
              case rel => exact ⟨_, ((a0.toList == ([104, 50] : List UInt8))), (by first | rfl | (simp; done) | (simp [*]; done) | (simp [bne, List.isEmpty_iff]; done) | (simp [bne, List.isEmpty_iff, *]; done) | (simp [bne]; rfl)), H', ⟨by have := HJ4.out; have := HJ8.out; first | omega | exact Nat.le_refl _⟩, by repeat (first | exact Drawn0.refl _ | apply Drawn0.step)⟩
             ·rw [if_neg c24] at H
              have c24b0 : (a0.toList == ([104, 50] : List UInt8)) = false := beq_eq_false_iff_ne.mpr c24
              have c24b1 : (a0.toList != ([104, 50] : List UInt8)) = true := bne_iff_ne.mpr c24
              by_cases c25 : a0.toList = ([104, 51] : List UInt8)
              ·rw [if_pos c25] at H
               have c25b0 : (a0.toList == ([104, 51] : List UInt8)) = true := beq_iff_eq.mpr c25
               have c25b1 : (a0.toList != ([104, 51] : List UInt8)) = false := bne_eq_false_iff_eq.mpr c25
               clear c25
               have H' := Aside0.mk H
               clear H
               go_wp2
               go_meet
               case rel => exact ⟨_, ((a0.toList == ([104, 51] : List UInt8))), (by first | rfl | (simp; done) | (simp [*]; done) | (simp [bne, List.isEmpty_iff]; done) | (simp [bne, List.isEmpty_iff, *]; done) | (simp [bne]; rfl)), H', ⟨by have := HJ4.out; have := HJ8.out; first | omega | exact Nat.le_refl _⟩, by repeat (first | exact Drawn0.refl _ | apply Drawn0.step)⟩
              ·rw [if_neg c25] at H
               have c25b0 : (a0.toList == ([104, 51] : List UInt8)) = false := beq_eq_false_iff_ne.mpr c25
               have c25b1 : (a0.toList != ([104, 51] : List UInt8)) = true := bne_iff_ne.mpr c25
               by_cases c26 : a0.toList = ([104, 52] : List UInt8)
               ·rw [if_pos c26] at H
                have c26b0 : (a0.toList == ([104, 52] : List UInt8)) = true := beq_iff_eq.mpr c26
                have c26b1 : (a0.toList != ([104, 52] : List UInt8)) = false := bne_eq_false_iff_eq.mpr c26
                clear c26
                have H' := Aside0.mk H
                clear H
                go_wp2
                go_meet
                case rel => exact ⟨_, ((a0.toList == ([104, 52] : List UInt8))), (by first | rfl | (simp; done) | (simp [*]; done) | (simp [bne, List.isEmpty_iff]; done) | (simp [bne, List.isEmpty_iff, *]; done) | (simp [bne]; rfl)), H', ⟨by have := HJ4.out; have := HJ8.out; first | omega | exact Nat.le_refl _⟩, by repeat (first | exact Drawn0.refl _ | apply Drawn0.step)⟩
               ·rw [if_neg c26] at H
                have c26b0 : (a0.toList == ([104, 52] : List UInt8)) = false := beq_eq_false_iff_ne.mpr c26
                have c26b1 : (a0.toList != ([104, 52] : List UInt8)) = true := bne_iff_ne.mpr c26
                by_cases c27 : a0.toList = ([104, 53] : List UInt8)
                ·rw [if_pos c27] at H
                 have c27b0 : (a0.toList == ([104, 53] : List UInt8)) = true := beq_iff_eq.mpr c27
                 have c27b1 : (a0.toList != ([104, 53] : List UInt8)) = false := bne_eq_false_iff_eq.mpr c27
                 clear c27
                 have H' := Aside0.mk H
                 clear H
                 go_wp2
                 go_meet
                 case rel => exact ⟨_, ((a0.toList == ([104, 53] : List UInt8))), (by first | rfl | (simp; done) | (simp [*]; done) | (simp [bne, List.isEmpty_iff]; done) | (simp [bne, List.isEmpty_iff, *]; done) | (simp [bne]; rfl)), H', ⟨by have := HJ4.out; have := HJ8.out; first | omega | exact Nat.le_refl _⟩, by repeat (first | exact Drawn0.refl _ | apply Drawn0.step)⟩
                ·rw [if_neg c27] at H
                 have c27b0 : (a0.toList == ([104, 53] : List UInt8)) = false := beq_eq_false_iff_ne.mpr c27
                 have c27b1 : (a0.toList != ([104, 53] : List UInt8)) = true := bne_iff_ne.mpr c27
                 have H' := Aside0.mk H
                 clear H
                 go_wp2
                 go_meet
                 case rel => exact ⟨_, ((a0.toList == ([104, 54] : List UInt8))), (by first | rfl | (simp; done) | (simp [*]; done) | (simp [bne, List.isEmpty_iff]; done) | (simp [bne, List.isEmpty_iff, *]; done) | (simp [bne]; rfl)), H', ⟨by have := HJ4.out; have := HJ8.out; first | omega | exact Nat.le_refl _⟩, by repeat (first | exact Drawn0.refl _ | apply Drawn0.step)⟩
           case rest =>
            clear HC22
            try clear c1
            try clear c2
            try clear c2b0
            try clear c2b1
            try clear p2
            try clear c3
            try clear c3b0
            try clear c3b1
            try clear c4
            try clear c4b0
            try clear c4b1
            try clear c5
            try clear c6
            try clear c6b0
            try clear c6b1
            try clear c7
            try clear c8
            try clear c8b0
            try clear c8b1
            try clear c10
            try clear c10b0
            try clear c10b1
            try clear c11
            try clear c11b0
            try clear c11b1
            try clear c12
            try clear c12b0
            try clear c12b1
            try clear c13
            try clear c13b0
            try clear c13b1
            try clear c14
            try clear c14b0
            try clear c14b1
            try clear c15
            try clear c15b0
            try clear c15b1
            try clear c16
            try clear c16b0
            try clear c16b1
            try clear c17
            try clear c17b0
            try clear c17b1
            try clear c18
            try clear c18b0
            try clear c18b1
            try clear c19
            try clear c19b0
            try clear c19b1
            try clear c20
            try clear c20b0
            try clear c20b1
            try clear c21
            try clear c23
            try clear c23b0
            try clear c23b1
            try clear c24
            try clear c24b0
            try clear c24b1
            try clear c25
            try clear c25b0
            try clear c25b1
            try clear c26
            try clear c26b0
            try clear c26b1
            try clear c27
            try clear c27b0
            try clear c27b1
            try clear p2
            obtain ⟨kq, x28_21, rfl, HA, HJ21, ⟨mc21, rfl⟩⟩ := hcut
            cases kq with
            | zero => exact absurd HA.out (by simp [tree_Kind.j2])
            | succ kj21 =>
             have H := HA.out
             clear HA
             simp only [tree_Kind.j2] at H
             by_cases c28 : x28_21 = true
             ·subst c28
              have H1 : (some 4) = some r := by rw [if_pos rfl] at H; exact H
              clear H
              have H := H1
              clear H1
              obtain rfl := Option.some.inj H
              go_wp2
              go_ret
              exact ⟨by first | rfl | (simp; done) | (simp [*]; done) | (simp [bne, List.isEmpty_iff]; done) | (simp [bne, List.isEmpty_iff, *]; done) | (simp [bne]; rfl), by repeat (first | exact Drawn0.refl _ | apply Drawn0.step)⟩
             ·replace c28 := Bool.eq_false_iff.mpr c28
              subst c28
              have H1 : (if a0.toList = ([115, 112, 97, 110] : List UInt8) then (some 5) else (if a0.toList = ([98] : List UInt8) then (some 5) else (if a0.toList = ([105] : List UInt8) then (some 5) else (if a0.toList = ([101, 109] : List UInt8) then (some 5) else (if a0.toList = ([115, 116, 114, 111, 110, 103] : List UInt8) then (some 5) else (if a0.toList = ([117] : List UInt8) then (some 5) else (if a0.toList = ([115] : List UInt8) then (some 5) else (if a0.toList = ([115, 109, 97, 108, 108] : List UInt8) then (some 5) else (if a0.toList = ([99, 111, 100, 101] : List UInt8) then (some 5) else (if a0.toList = ([98, 100, 105] : List UInt8) then (some 5) else (if a0.toList = ([98, 100, 111] : List UInt8) then (some 5) else (if a0.toList = ([97, 98, 98, 114] : List UInt8) then (some 5) else (if a0.toList = ([99, 105, 116, 101] : List UInt8) then (some 5) else (if a0.toList = ([113] : List UInt8) then (some 5) else (if a0.toList = ([115, 117, 98] : List UInt8) then (some 5) else (if a0.toList = ([115, 117, 112] : List UInt8) then (some 5) else (if a0.toList = ([109, 97, 114, 107] : List UInt8) then (some 5) else (some 0)))))))))))))))))) = some r := by rw [if_neg (show ¬ (false = true) by decide)] at H; exact H
              clear H
              have H := H1
              clear H1
              by_cases c29 : a0.toList = ([115, 112, 97, 110] : List UInt8)
              ·rw [if_pos c29] at H
               have c29b0 : (a0.toList == ([115, 112, 97, 110] : List UInt8)) = true := beq_iff_eq.mpr c29
               have c29b1 : (a0.toList != ([115, 112, 97, 110] : List UInt8)) = false := bne_eq_false_iff_eq.mpr c29
               clear c29
               obtain rfl := Option.some.inj H
               go_wp2
               go_ret
               exact ⟨by first | rfl | (simp; done) | (simp [*]; done) | (simp [bne, List.isEmpty_iff]; done) | (simp [bne, List.isEmpty_iff, *]; done) | (simp [bne]; rfl), by repeat (first | exact Drawn0.refl _ | apply Drawn0.step)⟩
              ·rw [if_neg c29] at H
               have c29b0 : (a0.toList == ([115, 112, 97, 110] : List UInt8)) = false := beq_eq_false_iff_ne.mpr c29
               have c29b1 : (a0.toList != ([115, 112, 97, 110] : List UInt8)) = true := bne_iff_ne.mpr c29
               by_cases c30 : a0.toList = ([98] : List UInt8)
               ·rw [if_pos c30] at H
                have c30b0 : (a0.toList == ([98] : List UInt8)) = true := beq_iff_eq.mpr c30
                have c30b1 : (a0.toList != ([98] : List UInt8)) = false := bne_eq_false_iff_eq.mpr c30
                clear c30
                obtain rfl := Option.some.inj H
                go_wp2
                go_ret
                exact ⟨by first | rfl | (simp; done) | (simp [*]; done) | (simp [bne, List.isEmpty_iff]; done) | (simp [bne, List.isEmpty_iff, *]; done) | (simp [bne]; rfl), by repeat (first | exact Drawn0.refl _ | apply Drawn0.step)⟩
               ·rw [if_neg c30] at H
                have c30b0 : (a0.toList == ([98] : List UInt8)) = false := beq_eq_false_iff_ne.mpr c30
                have c30b1 : (a0.toList != ([98] : List UInt8)) = true := bne_iff_ne.mpr c30
                by_cases c31 : a0.toList = ([105] : List UInt8)
                ·rw [if_pos c31] at H
                 have c31b0 : (a0.toList == ([105] : List UInt8)) = true := beq_iff_eq.mpr c31
                 have c31b1 : (a0.toList != ([105] : List UInt8)) = false := bne_eq_false_iff_eq.mpr c31
                 clear c31
                 obtain rfl := Option.some.inj H
                 go_wp2
                 go_ret
                 exact ⟨by first | rfl | (simp; done) | (simp [*]; done) | (simp [bne, List.isEmpty_iff]; done) | (simp [bne, List.isEmpty_iff, *]; done) | (simp [bne]; rfl), by repeat (first | exact Drawn0.refl _ | apply Drawn0.step)⟩
                ·rw [if_neg c31] at H
                 have c31b0 : (a0.toList == ([105] : List UInt8)) = false := beq_eq_false_iff_ne.mpr c31
                 have c31b1 : (a0.toList != ([105] : List UInt8)) = true := bne_iff_ne.mpr c31
                 by_cases c32 : a0.toList = ([101, 109] : List UInt8)
                 ·rw [if_pos c32] at H
                  have c32b0 : (a0.toList == ([101, 109] : List UInt8)) = true := beq_iff_eq.mpr c32
                  have c32b1 : (a0.toList != ([101, 109] : List UInt8)) = false := bne_eq_false_iff_eq.mpr c32
                  clear c32
                  obtain rfl := Option.some.inj H
                  go_wp2
                  go_ret
                  exact ⟨by first | rfl | (simp; done) | (simp [*]; done) | (simp [bne, List.isEmpty_iff]; done) | (simp [bne, List.isEmpty_iff, *]; done) | (simp [bne]; rfl), by repeat (first | exact Drawn0.refl _ | apply Drawn0.step)⟩
                 ·rw [if_neg c32] at H
                  have c32b0 : (a0.toList == ([101, 109] : List UInt8)) = false := beq_eq_false_iff_ne.mpr c32
                  have c32b1 : (a0.toList != ([101, 109] : List UInt8)) = true := bne_iff_ne.mpr c32
                  by_cases c33 : a0.toList = ([115, 116, 114, 111, 110, 103] : List UInt8)
                  ·rw [if_pos c33] at H
                   have c33b0 : (a0.toList == ([115, 116, 114, 111, 110, 103] : List UInt8)) = true := beq_iff_eq.mpr c33
                   have c33b1 : (a0.toList != ([115, 116, 114, 111, 110, 103] : List UInt8)) = false := bne_eq_false_iff_eq.mpr c33
                   clear c33
                   obtain rfl := Option.some.inj H
                   go_wp2
                   go_ret
                   exact ⟨by first | rfl | (simp; done) | (simp [*]; done) | (simp [bne, List.isEmpty_iff]; done) | (simp [bne, List.isEmpty_iff, *]; done) | (simp [bne]; rfl), by repeat (first | exact Drawn0.refl _ | apply Drawn0.step)⟩
                  ·rw [if_neg c33] at H
                   have c33b0 : (a0.toList == ([115, 116, 114, 111, 110, 103] : List UInt8)) = false := beq_eq_false_iff_ne.mpr c33
                   have c33b1 : (a0.toList != ([115, 116, 114, 111, 110, 103] : List UInt8)) = true := bne_iff_ne.mpr c33
                   by_cases c34 : a0.toList = ([117] : List UInt8)
                   ·rw [if_pos c34] at H
                    have c34b0 : (a0.toList == ([117] : List UInt8)) = true := beq_iff_eq.mpr c34
                    have c34b1 : (a0.toList != ([117] : List UInt8)) = false := bne_eq_false_iff_eq.mpr c34
                    clear c34
                    obtain rfl := Option.some.inj H
                    go_wp2
                    go_ret
                    exact ⟨by first | rfl | (simp; done) | (simp [*]; done) | (simp [bne, List.isEmpty_iff]; done) | (simp [bne, List.isEmpty_iff, *]; done) | (simp [bne]; rfl), by repeat (first | exact Drawn0.refl _ | apply Drawn0.step)⟩
                   ·rw [if_neg c34] at H
                    have c34b0 : (a0.toList == ([117] : List UInt8)) = false := beq_eq_false_iff_ne.mpr c34
                    have c34b1 : (a0.toList != ([117] : List UInt8)) = true := bne_iff_ne.mpr c34
                    by_cases c35 : a0.toList = ([115] : List UInt8)
                    ·rw [if_pos c35] at H
                     have c35b0 : (a0.toList == ([115] : List UInt8)) = true := beq_iff_eq.mpr c35
                     have c35b1 : (a0.toList != ([115] : List UInt8)) = false := bne_eq_false_iff_eq.mpr c35
                     clear c35
                     obtain rfl := Option.some.inj H
                     go_wp2
                     go_ret
                     exact ⟨by first | rfl | (simp; done) | (simp [*]; done) | (simp [bne, List.isEmpty_iff]; done) | (simp [bne, List.isEmpty_iff, *]; done) | (simp [bne]; rfl), by repeat (first | exact Drawn0.refl _ | apply Drawn0.step)⟩
                    ·rw [if_neg c35] at H
                     have c35b0 : (a0.toList == ([115] : List UInt8)) = false := beq_eq_false_iff_ne.mpr c35
                     have c35b1 : (a0.toList != ([115] : List UInt8)) = true := bne_iff_ne.mpr c35
                     by_cases c36 : a0.toList = ([115, 109, 97, 108, 108] : List UInt8)
                     ·rw [if_pos c36] at H
                      have c36b0 : (a0.toList == ([115, 109, 97, 108, 108] : List UInt8)) = true := beq_iff_eq.mpr c36
                      have c36b1 : (a0.toList != ([115, 109, 97, 108, 108] : List UInt8)) = false := bne_eq_false_iff_eq.mpr c36
                      clear c36
                      obtain rfl := Option.some.inj H
                      go_wp2
                      go_ret
                      exact ⟨by first | rfl | (simp; done) | (simp [*]; done) | (simp [bne, List.isEmpty_iff]; done) | (simp [bne, List.isEmpty_iff, *]; done) | (simp [bne]; rfl), by repeat (first | exact Drawn0.refl _ | apply Drawn0.step)⟩
                     ·rw [if_neg c36] at H
                      have c36b0 : (a0.toList == ([115, 109, 97, 108, 108] : List UInt8)) = false := beq_eq_false_iff_ne.mpr c36
                      have c36b1 : (a0.toList != ([115, 109, 97, 108, 108] : List UInt8)) = true := bne_iff_ne.mpr c36
                      by_cases c37 : a0.toList = ([99, 111, 100, 101] : List UInt8)
                      ·rw [if_pos c37] at H
                       have c37b0 : (a0.toList == ([99, 111, 100, 101] : List UInt8)) = true := beq_iff_eq.mpr c37
                       have c37b1 : (a0.toList != ([99, 111, 100, 101] : List UInt8)) = false := bne_eq_false_iff_eq.mpr c37
                       clear c37
                       obtain rfl := Option.some.inj H
                       go_wp2
                       go_ret
                       exact ⟨by first | rfl | (simp; done) | (simp [*]; done) | (simp [bne, List.isEmpty_iff]; done) | (simp [bne, List.isEmpty_iff, *]; done) | (simp [bne]; rfl), by repeat (first | exact Drawn0.refl _ | apply Drawn0.step)⟩
                      ·rw [if_neg c37] at H
                       have c37b0 : (a0.toList == ([99, 111, 100, 101] : List UInt8)) = false := beq_eq_false_iff_ne.mpr c37
                       have c37b1 : (a0.toList != ([99, 111, 100, 101] : List UInt8)) = true := bne_iff_ne.mpr c37
                       by_cases c38 : a0.toList = ([98, 100, 105] : List UInt8)
                       ·rw [if_pos c38] at H
                        have c38b0 : (a0.toList == ([98, 100, 105] : List UInt8)) = true := beq_iff_eq.mpr c38
                        have c38b1 : (a0.toList != ([98, 100, 105] : List UInt8)) = false := bne_eq_false_iff_eq.mpr c38
                        clear c38
                        obtain rfl := Option.some.inj H
                        go_wp2
                        go_ret
                        exact ⟨by first | rfl | (simp; done) | (simp [*]; done) | (simp [bne, List.isEmpty_iff]; done) | (simp [bne, List.isEmpty_iff, *]; done) | (simp [bne]; rfl), by repeat (first | exact Drawn0.refl _ | apply Drawn0.step)⟩
                       ·rw [if_neg c38] at H
                        have c38b0 : (a0.toList == ([98, 100, 105] : List UInt8)) = false := beq_eq_false_iff_ne.mpr c38
                        have c38b1 : (a0.toList != ([98, 100, 105] : List UInt8)) = true := bne_iff_ne.mpr c38
                        by_cases c39 : a0.toList = ([98, 100, 111] : List UInt8)
                        ·rw [if_pos c39] at H
                         have c39b0 : (a0.toList == ([98, 100, 111] : List UInt8)) = true := beq_iff_eq.mpr c39
                         have c39b1 : (a0.toList != ([98, 100, 111] : List UInt8)) = false := bne_eq_false_iff_eq.mpr c39
                         clear c39
                         obtain rfl := Option.some.inj H
                         go_wp2
                         go_ret
                         exact ⟨by first | rfl | (simp; done) | (simp [*]; done) | (simp [bne, List.isEmpty_iff]; done) | (simp [bne, List.isEmpty_iff, *]; done) | (simp [bne]; rfl), by repeat (first | exact Drawn0.refl _ | apply Drawn0.step)⟩
                        ·rw [if_neg c39] at H
                         have c39b0 : (a0.toList == ([98, 100, 111] : List UInt8)) = false := beq_eq_false_iff_ne.mpr c39
                         have c39b1 : (a0.toList != ([98, 100, 111] : List UInt8)) = true := bne_iff_ne.mpr c39
                         by_cases c40 : a0.toList = ([97, 98, 98, 114] : List UInt8)
                         ·rw [if_pos c40] at H
                          have c40b0 : (a0.toList == ([97, 98, 98, 114] : List UInt8)) = true := beq_iff_eq.mpr c40
                          have c40b1 : (a0.toList != ([97, 98, 98, 114] : List UInt8)) = false := bne_eq_false_iff_eq.mpr c40
                          clear c40
                          obtain rfl := Option.some.inj H
                          go_wp2
                          go_ret
                          exact ⟨by first | rfl | (simp; done) | (simp [*]; done) | (simp [bne, List.isEmpty_iff]; done) | (simp [bne, List.isEmpty_iff, *]; done) | (simp [bne]; rfl), by repeat (first | exact Drawn0.refl _ | apply Drawn0.step)⟩
                         ·rw [if_neg c40] at H
                          have c40b0 : (a0.toList == ([97, 98, 98, 114] : List UInt8)) = false := beq_eq_false_iff_ne.mpr c40
                          have c40b1 : (a0.toList != ([97, 98, 98, 114] : List UInt8)) = true := bne_iff_ne.mpr c40
                          by_cases c41 : a0.toList = ([99, 105, 116, 101] : List UInt8)
                          ·rw [if_pos c41] at H
                           have c41b0 : (a0.toList == ([99, 105, 116, 101] : List UInt8)) = true := beq_iff_eq.mpr c41
                           have c41b1 : (a0.toList != ([99, 105, 116, 101] : List UInt8)) = false := bne_eq_false_iff_eq.mpr c41
                           clear c41
                           obtain rfl := Option.some.inj H
                           go_wp2
                           go_ret
                           exact ⟨by first | rfl | (simp; done) | (simp [*]; done) | (simp [bne, List.isEmpty_iff]; done) | (simp [bne, List.isEmpty_iff, *]; done) | (simp [bne]; rfl), by repeat (first | exact Drawn0.refl _ | apply Drawn0.step)⟩
                          ·rw [if_neg c41] at H
                           have c41b0 : (a0.toList == ([99, 105, 116, 101] : List UInt8)) = false := beq_eq_false_iff_ne.mpr c41
                           have c41b1 : (a0.toList != ([99, 105, 116, 101] : List UInt8)) = true := bne_iff_ne.mpr c41
                           by_cases c42 : a0.toList = ([113] : List UInt8)
                           ·rw [if_pos c42] at H
                            have c42b0 : (a0.toList == ([113] : List UInt8)) = true := beq_iff_eq.mpr c42
                            have c42b1 : (a0.toList != ([113] : List UInt8)) = false := bne_eq_false_iff_eq.mpr c42
                            clear c42
                            obtain rfl := Option.some.inj H
                            go_wp2
                            go_ret
                            exact ⟨by first | rfl | (simp; done) | (simp [*]; done) | (simp [bne, List.isEmpty_iff]; done) | (simp [bne, List.isEmpty_iff, *]; done) | (simp [bne]; rfl), by repeat (first | exact Drawn0.refl _ | apply Drawn0.step)⟩
                           ·rw [if_neg c42] at H
                            have c42b0 : (a0.toList == ([113] : List UInt8)) = false := beq_eq_false_iff_ne.mpr c42
                            have c42b1 : (a0.toList != ([113] : List UInt8)) = true := bne_iff_ne.mpr c42
                            by_cases c43 : a0.toList = ([115, 117, 98] : List UInt8)
                            ·rw [if_pos c43] at H
                             have c43b0 : (a0.toList == ([115, 117, 98] : List UInt8)) = true := beq_iff_eq.mpr c43
                             have c43b1 : (a0.toList != ([115, 117, 98] : List UInt8)) = false := bne_eq_false_iff_eq.mpr c43
                             clear c43
                             obtain rfl := Option.some.inj H
                             go_wp2
                             go_ret
                             exact ⟨by first | rfl | (simp; done) | (simp [*]; done) | (simp [bne, List.isEmpty_iff]; done) | (simp [bne, List.isEmpty_iff, *]; done) | (simp [bne]; rfl), by repeat (first | exact Drawn0.refl _ | apply Drawn0.step)⟩
                            ·rw [if_neg c43] at H
                             have c43b0 : (a0.toList == ([115, 117, 98] : List UInt8)) = false := beq_eq_false_iff_ne.mpr c43
                             have c43b1 : (a0.toList != ([115, 117, 98] : List UInt8)) = true := bne_iff_ne.mpr c43
                             by_cases c44 : a0.toList = ([115, 117, 112] : List UInt8)
                             ·rw [if_pos c44] at H
                              have c44b0 : (a0.toList == ([115, 117, 112] : List UInt8)) = true := beq_iff_eq.mpr c44
                              have c44b1 : (a0.toList != ([115, 117, 112] : List UInt8)) = false := bne_eq_false_iff_eq.mpr c44
                              clear c44
                              obtain rfl := Option.some.inj H
                              go_wp2
                              go_ret
                              exact ⟨by first | rfl | (simp; done) | (simp [*]; done) | (simp [bne, List.isEmpty_iff]; done) | (simp [bne, List.isEmpty_iff, *]; done) | (simp [bne]; rfl), by repeat (first | exact Drawn0.refl _ | apply Drawn0.step)⟩
                             ·rw [if_neg c44] at H
                              have c44b0 : (a0.toList == ([115, 117, 112] : List UInt8)) = false := beq_eq_false_iff_ne.mpr c44
                              have c44b1 : (a0.toList != ([115, 117, 112] : List UInt8)) = true := bne_iff_ne.mpr c44
                              by_cases c45 : a0.toList = ([109, 97, 114, 107] : List UInt8)
                              ·rw [if_pos c45] at H
                               have c45b0 : (a0.toList == ([109, 97, 114, 107] : List UInt8)) = true := beq_iff_eq.mpr c45
                               have c45b1 : (a0.toList != ([109, 97, 114, 107] : List UInt8)) = false := bne_eq_false_iff_eq.mpr c45
                               clear c45
                               obtain rfl := Option.some.inj H
                               go_wp2
                               go_ret
                               exact ⟨by first | rfl | (simp; done) | (simp [*]; done) | (simp [bne, List.isEmpty_iff]; done) | (simp [bne, List.isEmpty_iff, *]; done) | (simp [bne]; rfl), by repeat (first | exact Drawn0.refl _ | apply Drawn0.step)⟩
                              ·rw [if_neg c45] at H
                               have c45b0 : (a0.toList == ([109, 97, 114, 107] : List UInt8)) = false := beq_eq_false_iff_ne.mpr c45
                               have c45b1 : (a0.toList != ([109, 97, 114, 107] : List UInt8)) = true := bne_iff_ne.mpr c45
                               obtain rfl := Option.some.inj H
                               go_wp2
                               go_ret
                               exact ⟨by first | rfl | (simp; done) | (simp [*]; done) | (simp [bne, List.isEmpty_iff]; done) | (simp [bne, List.isEmpty_iff, *]; done) | (simp [bne]; rfl), by repeat (first | exact Drawn0.refl _ | apply Drawn0.step)⟩

/-! ### tree_well: function 90 -/
def tree_well.f (a0 : ByteArray) : Option (Bool) := (x_ValidString.f a0).bind fun t101 => (if t101 = true then ((x_IndexByte.f a0 0).bind fun t102 => (some (decide (t102 < 0)))) else (some false))
set_option maxHeartbeats 80000000 in
set_option maxRecDepth 100000 in
theorem tree_well.calls (a0 : ByteArray) (r : Bool) (w : World) (h : tree_well.f a0 = some r) (hG1 : G1 w) :
  Calls Tryz.prog 90 #[.string a0] w fun e w' => e = .returned (.bool r) ∧ Below w.heap.size w w' := by
 have HB := Aside0.mk (Below.refl w.heap.size w)
 have H : ((x_ValidString.f a0).bind fun t101 => (if t101 = true then ((x_IndexByte.f a0 0).bind fun t102 => (some (decide (t102 < 0)))) else (some false))) = some r := h
 clear h
 replace H := Option.bind_eq_some_iff.mp H
 obtain ⟨t101, A20, H⟩ := H
 replace H : (if t101 = true then ((x_IndexByte.f a0 0).bind fun t102 => (some (decide (t102 < 0)))) else (some false)) = some r := H
 have A2 := Aside0.mk A20
 clear A20
 by_cases c3 : t101 = true
 ·subst c3
  have H1 : ((x_IndexByte.f a0 0).bind fun t102 => (some (decide (t102 < 0)))) = some r := by rw [if_pos rfl] at H; exact H
  clear H
  have H := H1
  clear H1
  replace H := Option.bind_eq_some_iff.mp H
  obtain ⟨t102, A40, H⟩ := H
  replace H : (some (decide (t102 < 0))) = some r := H
  have A4 := Aside0.mk A40
  clear A40
  obtain rfl := Option.some.inj H
  go_enter Tryz.func90, Tryz.ntmps90
  go_wp2_with (first | ((with_reducible refine gate_callee (f := 116) rfl ?_); refine goesL_ (some 4) rfl rfl Tryz.func116 (by kernel_rfl) rfl #[.string a0] rfl (by (try simp only [List.map_toArray, List.map_cons, List.map_nil]); first | done | rfl | (simp only [List.length_drop, List.length_take]; rfl)) ?_; (with_reducible refine (x_ValidString.calls a0 true _ A2.out (by first | exact hG1 | exact G1.below hG1 (by assumption) | exact G1.below hG1 HB.out | (apply G1.below hG1; repeat (first | (with_reducible first | exact HB.out | apply below_alloc | apply pw_below_drewN | apply below_drew1 | exact Below.refl _ _) | exact HB.out | exact Below.refl _ _)) | (have hd_ := ‹Aside0 (Drawn0 _ _)›.out.below; exact G1.below hG1 hd_))).mono ?_); rintro e w5 ⟨rfl, hb⟩; refine ⟨_, rfl, ?_⟩; have n0_ := Aside0.mk (below_step (by repeat (first | (with_reducible first | exact HB.out | apply below_alloc | apply pw_below_drewN | apply below_drew1) | exact HB.out)) hb); clear HB; have HB := n0_; clear n0_; (try clear hb); (try clear hb2); (try clear hk); (try clear hi)) | (go_at_call 86; (with_reducible refine (x_IndexByte.calls a0 0 t102 _ A4.out).mono ?_); rintro e w' ⟨rfl, ⟨nd, rfl⟩⟩))
  go_ret
  exact ⟨by first | rfl | (simp [errW_none, errW_some] <;> rfl) | (simp [*, errW_none, errW_some] <;> rfl), by repeat (first | (with_reducible first | exact HB.out | apply below_alloc | apply pw_below_drewN | apply below_drew1) | exact HB.out)⟩
 ·replace c3 := Bool.eq_false_iff.mpr c3
  subst c3
  have H1 : (some false) = some r := by rw [if_neg (show ¬ (false = true) by decide)] at H; exact H
  clear H
  have H := H1
  clear H1
  obtain rfl := Option.some.inj H
  go_enter Tryz.func90, Tryz.ntmps90
  go_wp2_with (first | ((with_reducible refine gate_callee (f := 116) rfl ?_); refine goesL_ (some 4) rfl rfl Tryz.func116 (by kernel_rfl) rfl #[.string a0] rfl (by (try simp only [List.map_toArray, List.map_cons, List.map_nil]); first | done | rfl | (simp only [List.length_drop, List.length_take]; rfl)) ?_; (with_reducible refine (x_ValidString.calls a0 false _ A2.out (by first | exact hG1 | exact G1.below hG1 (by assumption) | exact G1.below hG1 HB.out | (apply G1.below hG1; repeat (first | (with_reducible first | exact HB.out | apply below_alloc | apply pw_below_drewN | apply below_drew1 | exact Below.refl _ _) | exact HB.out | exact Below.refl _ _)) | (have hd_ := ‹Aside0 (Drawn0 _ _)›.out.below; exact G1.below hG1 hd_))).mono ?_); rintro e w6 ⟨rfl, hb⟩; refine ⟨_, rfl, ?_⟩; have n0_ := Aside0.mk (below_step (by repeat (first | (with_reducible first | exact HB.out | apply below_alloc | apply pw_below_drewN | apply below_drew1) | exact HB.out)) hb); clear HB; have HB := n0_; clear n0_; (try clear hb); (try clear hb2); (try clear hk); (try clear hi)))
  go_ret
  exact ⟨by first | rfl | (simp [errW_none, errW_some] <;> rfl) | (simp [*, errW_none, errW_some] <;> rfl), by repeat (first | (with_reducible first | exact HB.out | apply below_alloc | apply pw_below_drewN | apply below_drew1) | exact HB.out)⟩

end Go.Proofs.YtpfhgolamlnhiaaGreatDoor.XA

namespace Go.Proofs.YtpfhgolamlnhiaaGreatDoor.XA
open Go.RowKit Go.Proofs.YtpfhgolamlnhiaaGreatDoor Go.Proofs.YtpfhgolamlnhiaaGreatDoor.XT Go.Proofs.YtpfhgolamlnhiaaGreatDoorW.PrintWords Go.Proofs.YtpfhgolamlnhiaaGreatDoorW.PrintLast Go.Proofs.YtpfhgolamlnhiaaGreatDoorW.PrintMore
attribute [local go_sem] max2_int min2_int max_two min_two max_three min_three max_four min_four   -- for this text's walks alone
set_option linter.unusedVariables false
set_option linter.unusedSimpArgs false

/-! ### tree_named: function 117 -/
def tree_named.l0 : Nat → ByteArray → Int → Int → Option (Bool)
 | 0, _, _, _ => none
 | k + 1, x0, x6, x7 => if x7 < x6 then (if 0 ≤ x7 then (if x7 < (x0.size : Int) then (if (bt x0 x7) < 97 then (if (bt x0 x7) < 48 then (if (bt x0 x7) = 45 then (tree_named.l0 k x0 x6 (wrap64 (x7 + 1))) else (if (bt x0 x7) = 95 then (tree_named.l0 k x0 x6 (wrap64 (x7 + 1))) else (some false))) else (if (bt x0 x7) > 57 then (if (bt x0 x7) = 45 then (tree_named.l0 k x0 x6 (wrap64 (x7 + 1))) else (if (bt x0 x7) = 95 then (tree_named.l0 k x0 x6 (wrap64 (x7 + 1))) else (some false))) else (tree_named.l0 k x0 x6 (wrap64 (x7 + 1))))) else (if (bt x0 x7) > 122 then (if (bt x0 x7) < 48 then (if (bt x0 x7) = 45 then (tree_named.l0 k x0 x6 (wrap64 (x7 + 1))) else (if (bt x0 x7) = 95 then (tree_named.l0 k x0 x6 (wrap64 (x7 + 1))) else (some false))) else (if (bt x0 x7) > 57 then (if (bt x0 x7) = 45 then (tree_named.l0 k x0 x6 (wrap64 (x7 + 1))) else (if (bt x0 x7) = 95 then (tree_named.l0 k x0 x6 (wrap64 (x7 + 1))) else (some false))) else (tree_named.l0 k x0 x6 (wrap64 (x7 + 1))))) else (tree_named.l0 k x0 x6 (wrap64 (x7 + 1))))) else (none)) else (none)) else (some (x0.toList != ([] : List UInt8)))
def tree_named.f (k : Nat) (a0 : ByteArray) : Option (Bool) := tree_named.l0 k a0 (a0.size : Int) 0
theorem tree_named.mono_l : ∀ k, (∀ y0 y1 y2, LeO (tree_named.l0 k y0 y1 y2) (tree_named.l0 (k + 1) y0 y1 y2))
 | 0 => fun _ _ _ r h => by simp [tree_named.l0] at h
 | k + 1 => by
  have ih0 := tree_named.mono_l k
  ·intro y0 y1 y2
   unfold tree_named.l0
   repeat' first
   | (with_reducible exact ih0 _ _ _)
   | (with_reducible exact LeO.refl _)
   | (with_reducible exact LeO.none _)
   | (with_reducible refine LeO.ite ?_ ?_)
   | (with_reducible refine LeO.bind ?_ (fun _ => ?_))
   | exact ih0 _ _ _
   | exact LeO.none _
   | refine LeO.ite ?_ ?_
   | refine LeO.bind ?_ (fun _ => ?_)
theorem tree_named.mono : ∀ a0 k, LeO (tree_named.f k a0) (tree_named.f (k + 1) a0) := by
 intro a0 k
 have ih0 := tree_named.mono_l k
 unfold tree_named.f
 repeat' first
   | (with_reducible exact ih0 _ _ _)
   | (with_reducible exact LeO.refl _)
   | (with_reducible exact LeO.none _)
   | (with_reducible refine LeO.ite ?_ ?_)
   | (with_reducible refine LeO.bind ?_ (fun _ => ?_))
   | exact ih0 _ _ _
   | exact LeO.none _
   | refine LeO.ite ?_ ?_
   | refine LeO.bind ?_ (fun _ => ?_)
set_option maxHeartbeats 80000000 in
set_option maxRecDepth 100000 in
theorem tree_named.calls (k : Nat) (a0 : ByteArray) (r : Bool) (w : World) (h : tree_named.f k a0 = some r) :
  Calls Tryz.prog 117 #[.string a0] w fun e w' => e = .returned (.bool r) ∧ Drawn0 w w' := by
 have H : (tree_named.l0 k a0 (a0.size : Int) 0) = some r := h
 clear h
 have H' := Aside0.mk H
 clear H
 go_enter Tryz.func117, Tryz.ntmps117
 go_wp2
 go_loopg [7] k (fun kq v7 w' => ∃ (x7_1 : Int), v7 = .int .i64 x7_1 ∧ Aside0 (tree_named.l0 kq a0 (a0.size : Int) x7_1 = some r) ∧ Aside0 (kq ≤ k) ∧ Drawn0 w w')
 case atStart => exact ⟨(0), (by first | rfl | (simp; done) | (simp [*]; done) | (simp [bne, List.isEmpty_iff]; done) | (simp [bne, List.isEmpty_iff, *]; done) | (simp [bne]; rfl)), H', ⟨Nat.le_refl _⟩, by repeat (first | exact Drawn0.refl _ | apply Drawn0.step)⟩
 case round =>
  clear H'
  try clear c1
  obtain ⟨x7_1, rfl, HA, HK1, ⟨m1, rfl⟩⟩ := hrel
  cases gk with
  | zero => exact absurd HA.out (by simp [tree_named.l0])
  | succ k1 =>
   have H := HA.out
   clear HA
   simp only [tree_named.l0] at H
   by_cases c2 : x7_1 < (a0.size : Int)
   ·rw [if_pos c2] at H
    have c2b0 : decide (x7_1 < (a0.size : Int)) = true := decide_eq_true c2
    clear c2
    by_cases c3 : 0 ≤ x7_1
    ·rw [if_pos c3] at H
     have c3b0 : decide (0 ≤ x7_1) = true := decide_eq_true c3
     clear c3
     by_cases c4 : x7_1 < (a0.size : Int)
     ·rw [if_pos c4] at H
      have c4b0 : decide (x7_1 < (a0.size : Int)) = true := decide_eq_true c4
      clear c4
      by_cases c6 : (bt a0 x7_1) < 97
      ·rw [if_pos c6] at H
       have c6b0 : decide ((bt a0 x7_1) < 97) = true := decide_eq_true c6
       clear c6
       by_cases c7 : (bt a0 x7_1) < 48
       ·rw [if_pos c7] at H
        have c7b0 : decide ((bt a0 x7_1) < 48) = true := decide_eq_true c7
        clear c7
        by_cases c8 : (bt a0 x7_1) = 45
        ·rw [if_pos c8] at H
         have c8b0 : ((bt a0 x7_1) == 45) = true := beq_iff_eq.mpr c8
         have c8b1 : ((bt a0 x7_1) != 45) = false := bne_eq_false_iff_eq.mpr c8
         clear c8
         have H' := Aside0.mk H
         clear H
         have p5 : 0 ≤ (x7_1 : Int) := of_decide_eq_true (by first | (with_reducible assumption) | assumption)
         have q5 : x7_1 < (a0.size : Int) := of_decide_eq_true (by first | (with_reducible assumption) | assumption)
         have hx5 := bt_at a0 x7_1
         replace p5 := eq_true p5
         replace q5 := eq_true q5
         go_wp2
         go_roundg k1
         case measure => have := HK1.out; omega
         case rel => exact ⟨(wrap64 (x7_1 + 1)), (by first | rfl | (simp; done) | (simp [*]; done) | (simp [bne, List.isEmpty_iff]; done) | (simp [bne, List.isEmpty_iff, *]; done) | (simp [bne]; rfl)), H', ⟨by have := HK1.out; omega⟩, by repeat (first | exact Drawn0.refl _ | apply Drawn0.step)⟩
        ·rw [if_neg c8] at H
         have c8b0 : ((bt a0 x7_1) == 45) = false := beq_eq_false_iff_ne.mpr c8
         have c8b1 : ((bt a0 x7_1) != 45) = true := bne_iff_ne.mpr c8
         by_cases c9 : (bt a0 x7_1) = 95
         ·rw [if_pos c9] at H
          have c9b0 : ((bt a0 x7_1) == 95) = true := beq_iff_eq.mpr c9
          have c9b1 : ((bt a0 x7_1) != 95) = false := bne_eq_false_iff_eq.mpr c9
          clear c9
          have H' := Aside0.mk H
          clear H
          have p5 : 0 ≤ (x7_1 : Int) := of_decide_eq_true (by first | (with_reducible assumption) | assumption)
          have q5 : x7_1 < (a0.size : Int) := of_decide_eq_true (by first | (with_reducible assumption) | assumption)
          have hx5 := bt_at a0 x7_1
          replace p5 := eq_true p5
          replace q5 := eq_true q5
          go_wp2
          go_roundg k1
          case measure => have := HK1.out; omega
          case rel => exact ⟨(wrap64 (x7_1 + 1)), (by first | rfl | (simp; done) | (simp [*]; done) | (simp [bne, List.isEmpty_iff]; done) | (simp [bne, List.isEmpty_iff, *]; done) | (simp [bne]; rfl)), H', ⟨by have := HK1.out; omega⟩, by repeat (first | exact Drawn0.refl _ | apply Drawn0.step)⟩
         ·rw [if_neg c9] at H
          have c9b0 : ((bt a0 x7_1) == 95) = false := beq_eq_false_iff_ne.mpr c9
          have c9b1 : ((bt a0 x7_1) != 95) = true := bne_iff_ne.mpr c9
          obtain rfl := Option.some.inj H
          have p5 : 0 ≤ (x7_1 : Int) := of_decide_eq_true (by first | (with_reducible assumption) | assumption)
          have q5 : x7_1 < (a0.size : Int) := of_decide_eq_true (by first | (with_reducible assumption) | assumption)
          have hx5 := bt_at a0 x7_1
          replace p5 := eq_true p5
          replace q5 := eq_true q5
          go_wp2
          go_ret
          exact ⟨by first | rfl | (simp; done) | (simp [*]; done) | (simp [bne, List.isEmpty_iff]; done) | (simp [bne, List.isEmpty_iff, *]; done) | (simp [bne]; rfl), by repeat (first | exact Drawn0.refl _ | apply Drawn0.step)⟩
       ·rw [if_neg c7] at H
        have c7b0 : decide ((bt a0 x7_1) < 48) = false := decide_eq_false c7
        clear c7
        by_cases c10 : (bt a0 x7_1) > 57
        ·rw [if_pos c10] at H
         have c10b0 : decide (57 < (bt a0 x7_1)) = true := decide_eq_true c10
         clear c10
         by_cases c11 : (bt a0 x7_1) = 45
         ·rw [if_pos c11] at H
          have c11b0 : ((bt a0 x7_1) == 45) = true := beq_iff_eq.mpr c11
          have c11b1 : ((bt a0 x7_1) != 45) = false := bne_eq_false_iff_eq.mpr c11
          clear c11
          have H' := Aside0.mk H
          clear H
          have p5 : 0 ≤ (x7_1 : Int) := of_decide_eq_true (by first | (with_reducible assumption) | assumption)
          have q5 : x7_1 < (a0.size : Int) := of_decide_eq_true (by first | (with_reducible assumption) | assumption)
          have hx5 := bt_at a0 x7_1
          replace p5 := eq_true p5
          replace q5 := eq_true q5
          go_wp2
          go_roundg k1
          case measure => have := HK1.out; omega
          case rel => exact ⟨(wrap64 (x7_1 + 1)), (by first | rfl | (simp; done) | (simp [*]; done) | (simp [bne, List.isEmpty_iff]; done) | (simp [bne, List.isEmpty_iff, *]; done) | (simp [bne]; rfl)), H', ⟨by have := HK1.out; omega⟩, by repeat (first | exact Drawn0.refl _ | apply Drawn0.step)⟩
         ·rw [if_neg c11] at H
          have c11b0 : ((bt a0 x7_1) == 45) = false := beq_eq_false_iff_ne.mpr c11
          have c11b1 : ((bt a0 x7_1) != 45) = true := bne_iff_ne.mpr c11
          by_cases c12 : (bt a0 x7_1) = 95
          ·rw [if_pos c12] at H
           have c12b0 : ((bt a0 x7_1) == 95) = true := beq_iff_eq.mpr c12
           have c12b1 : ((bt a0 x7_1) != 95) = false := bne_eq_false_iff_eq.mpr c12
           clear c12
           have H' := Aside0.mk H
           clear H
           have p5 : 0 ≤ (x7_1 : Int) := of_decide_eq_true (by first | (with_reducible assumption) | assumption)
           have q5 : x7_1 < (a0.size : Int) := of_decide_eq_true (by first | (with_reducible assumption) | assumption)
           have hx5 := bt_at a0 x7_1
           replace p5 := eq_true p5
           replace q5 := eq_true q5
           go_wp2
           go_roundg k1
           case measure => have := HK1.out; omega
           case rel => exact ⟨(wrap64 (x7_1 + 1)), (by first | rfl | (simp; done) | (simp [*]; done) | (simp [bne, List.isEmpty_iff]; done) | (simp [bne, List.isEmpty_iff, *]; done) | (simp [bne]; rfl)), H', ⟨by have := HK1.out; omega⟩, by repeat (first | exact Drawn0.refl _ | apply Drawn0.step)⟩
          ·rw [if_neg c12] at H
           have c12b0 : ((bt a0 x7_1) == 95) = false := beq_eq_false_iff_ne.mpr c12
           have c12b1 : ((bt a0 x7_1) != 95) = true := bne_iff_ne.mpr c12
           obtain rfl := Option.some.inj H
           have p5 : 0 ≤ (x7_1 : Int) := of_decide_eq_true (by first | (with_reducible assumption) | assumption)
           have q5 : x7_1 < (a0.size : Int) := of_decide_eq_true (by first | (with_reducible assumption) | assumption)
           have hx5 := bt_at a0 x7_1
           replace p5 := eq_true p5
           replace q5 := eq_true q5
           go_wp2
           go_ret
           exact ⟨by first | rfl | (simp; done) | (simp [*]; done) | (simp [bne, List.isEmpty_iff]; done) | (simp [bne, List.isEmpty_iff, *]; done) | (simp [bne]; rfl), by repeat (first | exact Drawn0.refl _ | apply Drawn0.step)⟩
        ·rw [if_neg c10] at H
         have c10b0 : decide (57 < (bt a0 x7_1)) = false := decide_eq_false c10
         clear c10
         have H' := Aside0.mk H
         clear H
         have p5 : 0 ≤ (x7_1 : Int) := of_decide_eq_true (by first | (with_reducible assumption) | assumption)
         have q5 : x7_1 < (a0.size : Int) := of_decide_eq_true (by first | (with_reducible assumption) | assumption)
         have hx5 := bt_at a0 x7_1
         replace p5 := eq_true p5
         replace q5 := eq_true q5
         go_wp2
         go_roundg k1
         case measure => have := HK1.out; omega
         case rel => exact ⟨(wrap64 (x7_1 + 1)), (by first | rfl | (simp; done) | (simp [*]; done) | (simp [bne, List.isEmpty_iff]; done) | (simp [bne, List.isEmpty_iff, *]; done) | (simp [bne]; rfl)), H', ⟨by have := HK1.out; omega⟩, by repeat (first | exact Drawn0.refl _ | apply Drawn0.step)⟩
      ·rw [if_neg c6] at H
       have c6b0 : decide ((bt a0 x7_1) < 97) = false := decide_eq_false c6
       clear c6
       by_cases c13 : (bt a0 x7_1) > 122
       ·rw [if_pos c13] at H
        have c13b0 : decide (122 < (bt a0 x7_1)) = true := decide_eq_true c13
        clear c13
        by_cases c14 : (bt a0 x7_1) < 48
        ·rw [if_pos c14] at H
         have c14b0 : decide ((bt a0 x7_1) < 48) = true := decide_eq_true c14
         clear c14
         by_cases c15 : (bt a0 x7_1) = 45
         ·rw [if_pos c15] at H
          have c15b0 : ((bt a0 x7_1) == 45) = true := beq_iff_eq.mpr c15
          have c15b1 : ((bt a0 x7_1) != 45) = false := bne_eq_false_iff_eq.mpr c15
          clear c15
          have H' := Aside0.mk H
          clear H
          have p5 : 0 ≤ (x7_1 : Int) := of_decide_eq_true (by first | (with_reducible assumption) | assumption)
          have q5 : x7_1 < (a0.size : Int) := of_decide_eq_true (by first | (with_reducible assumption) | assumption)
          have hx5 := bt_at a0 x7_1
          replace p5 := eq_true p5
          replace q5 := eq_true q5
          go_wp2
          go_roundg k1
          case measure => have := HK1.out; omega
          case rel => exact ⟨(wrap64 (x7_1 + 1)), (by first | rfl | (simp; done) | (simp [*]; done) | (simp [bne, List.isEmpty_iff]; done) | (simp [bne, List.isEmpty_iff, *]; done) | (simp [bne]; rfl)), H', ⟨by have := HK1.out; omega⟩, by repeat (first | exact Drawn0.refl _ | apply Drawn0.step)⟩
         ·rw [if_neg c15] at H
          have c15b0 : ((bt a0 x7_1) == 45) = false := beq_eq_false_iff_ne.mpr c15
          have c15b1 : ((bt a0 x7_1) != 45) = true := bne_iff_ne.mpr c15
          by_cases c16 : (bt a0 x7_1) = 95
          ·rw [if_pos c16] at H
           have c16b0 : ((bt a0 x7_1) == 95) = true := beq_iff_eq.mpr c16
           have c16b1 : ((bt a0 x7_1) != 95) = false := bne_eq_false_iff_eq.mpr c16
           clear c16
           have H' := Aside0.mk H
           clear H
           have p5 : 0 ≤ (x7_1 : Int) := of_decide_eq_true (by first | (with_reducible assumption) | assumption)
           have q5 : x7_1 < (a0.size : Int) := of_decide_eq_true (by first | (with_reducible assumption) | assumption)
           have hx5 := bt_at a0 x7_1
           replace p5 := eq_true p5
           replace q5 := eq_true q5
           go_wp2
           go_roundg k1
           case measure => have := HK1.out; omega
           case rel => exact ⟨(wrap64 (x7_1 + 1)), (by first | rfl | (simp; done) | (simp [*]; done) | (simp [bne, List.isEmpty_iff]; done) | (simp [bne, List.isEmpty_iff, *]; done) | (simp [bne]; rfl)), H', ⟨by have := HK1.out; omega⟩, by repeat (first | exact Drawn0.refl _ | apply Drawn0.step)⟩
          ·rw [if_neg c16] at H
           have c16b0 : ((bt a0 x7_1) == 95) = false := beq_eq_false_iff_ne.mpr c16
           have c16b1 : ((bt a0 x7_1) != 95) = true := bne_iff_ne.mpr c16
           obtain rfl := Option.some.inj H
           have p5 : 0 ≤ (x7_1 : Int) := of_decide_eq_true (by first | (with_reducible assumption) | assumption)
           have q5 : x7_1 < (a0.size : Int) := of_decide_eq_true (by first | (with_reducible assumption) | assumption)
           have hx5 := bt_at a0 x7_1
           replace p5 := eq_true p5
           replace q5 := eq_true q5
           go_wp2
           go_ret
           exact ⟨by first | rfl | (simp; done) | (simp [*]; done) | (simp [bne, List.isEmpty_iff]; done) | (simp [bne, List.isEmpty_iff, *]; done) | (simp [bne]; rfl), by repeat (first | exact Drawn0.refl _ | apply Drawn0.step)⟩
        ·rw [if_neg c14] at H
         have c14b0 : decide ((bt a0 x7_1) < 48) = false := decide_eq_false c14
         clear c14
         by_cases c17 : (bt a0 x7_1) > 57
         ·rw [if_pos c17] at H
          have c17b0 : decide (57 < (bt a0 x7_1)) = true := decide_eq_true c17
          clear c17
          by_cases c18 : (bt a0 x7_1) = 45
          ·rw [if_pos c18] at H
           have c18b0 : ((bt a0 x7_1) == 45) = true := beq_iff_eq.mpr c18
           have c18b1 : ((bt a0 x7_1) != 45) = false := bne_eq_false_iff_eq.mpr c18
           clear c18
           have H' := Aside0.mk H
           clear H
           have p5 : 0 ≤ (x7_1 : Int) := of_decide_eq_true (by first | (with_reducible assumption) | assumption)
           have q5 : x7_1 < (a0.size : Int) := of_decide_eq_true (by first | (with_reducible assumption) | assumption)
           have hx5 := bt_at a0 x7_1
           replace p5 := eq_true p5
           replace q5 := eq_true q5
           go_wp2
           go_roundg k1
           case measure => have := HK1.out; omega
           case rel => exact ⟨(wrap64 (x7_1 + 1)), (by first | rfl | (simp; done) | (simp [*]; done) | (simp [bne, List.isEmpty_iff]; done) | (simp [bne, List.isEmpty_iff, *]; done) | (simp [bne]; rfl)), H', ⟨by have := HK1.out; omega⟩, by repeat (first | exact Drawn0.refl _ | apply Drawn0.step)⟩
          ·rw [if_neg c18] at H
           have c18b0 : ((bt a0 x7_1) == 45) = false := beq_eq_false_iff_ne.mpr c18
           have c18b1 : ((bt a0 x7_1) != 45) = true := bne_iff_ne.mpr c18
           by_cases c19 : (bt a0 x7_1) = 95
           ·rw [if_pos c19] at H
            have c19b0 : ((bt a0 x7_1) == 95) = true := beq_iff_eq.mpr c19
            have c19b1 : ((bt a0 x7_1) != 95) = false := bne_eq_false_iff_eq.mpr c19
            clear c19
            have H' := Aside0.mk H
            clear H
            have p5 : 0 ≤ (x7_1 : Int) := of_decide_eq_true (by first | (with_reducible assumption) | assumption)
            have q5 : x7_1 < (a0.size : Int) := of_decide_eq_true (by first | (with_reducible assumption) | assumption)
            have hx5 := bt_at a0 x7_1
            replace p5 := eq_true p5
            replace q5 := eq_true q5
            go_wp2
            go_roundg k1
            case measure => have := HK1.out; omega
            case rel => exact ⟨(wrap64 (x7_1 + 1)), (by first | rfl | (simp; done) | (simp [*]; done) | (simp [bne, List.isEmpty_iff]; done) | (simp [bne, List.isEmpty_iff, *]; done) | (simp [bne]; rfl)), H', ⟨by have := HK1.out; omega⟩, by repeat (first | exact Drawn0.refl _ | apply Drawn0.step)⟩
           ·rw [if_neg c19] at H
            have c19b0 : ((bt a0 x7_1) == 95) = false := beq_eq_false_iff_ne.mpr c19
            have c19b1 : ((bt a0 x7_1) != 95) = true := bne_iff_ne.mpr c19
            obtain rfl := Option.some.inj H
            have p5 : 0 ≤ (x7_1 : Int) := of_decide_eq_true (by first | (with_reducible assumption) | assumption)
            have q5 : x7_1 < (a0.size : Int) := of_decide_eq_true (by first | (with_reducible assumption) | assumption)
            have hx5 := bt_at a0 x7_1
            replace p5 := eq_true p5
            replace q5 := eq_true q5
            go_wp2
            go_ret
            exact ⟨by first | rfl | (simp; done) | (simp [*]; done) | (simp [bne, List.isEmpty_iff]; done) | (simp [bne, List.isEmpty_iff, *]; done) | (simp [bne]; rfl), by repeat (first | exact Drawn0.refl _ | apply Drawn0.step)⟩
         ·rw [if_neg c17] at H
          have c17b0 : decide (57 < (bt a0 x7_1)) = false := decide_eq_false c17
          clear c17
          have H' := Aside0.mk H
          clear H
          have p5 : 0 ≤ (x7_1 : Int) := of_decide_eq_true (by first | (with_reducible assumption) | assumption)
          have q5 : x7_1 < (a0.size : Int) := of_decide_eq_true (by first | (with_reducible assumption) | assumption)
          have hx5 := bt_at a0 x7_1
          replace p5 := eq_true p5
          replace q5 := eq_true q5
          go_wp2
          go_roundg k1
          case measure => have := HK1.out; omega
          case rel => exact ⟨(wrap64 (x7_1 + 1)), (by first | rfl | (simp; done) | (simp [*]; done) | (simp [bne, List.isEmpty_iff]; done) | (simp [bne, List.isEmpty_iff, *]; done) | (simp [bne]; rfl)), H', ⟨by have := HK1.out; omega⟩, by repeat (first | exact Drawn0.refl _ | apply Drawn0.step)⟩
       ·rw [if_neg c13] at H
        have c13b0 : decide (122 < (bt a0 x7_1)) = false := decide_eq_false c13
        clear c13
        have H' := Aside0.mk H
        clear H
        have p5 : 0 ≤ (x7_1 : Int) := of_decide_eq_true (by first | (with_reducible assumption) | assumption)
        have q5 : x7_1 < (a0.size : Int) := of_decide_eq_true (by first | (with_reducible assumption) | assumption)
        have hx5 := bt_at a0 x7_1
        replace p5 := eq_true p5
        replace q5 := eq_true q5
        go_wp2
        go_roundg k1
        case measure => have := HK1.out; omega
        case rel => exact ⟨(wrap64 (x7_1 + 1)), (by first | rfl | (simp; done) | (simp [*]; done) | (simp [bne, List.isEmpty_iff]; done) | (simp [bne, List.isEmpty_iff, *]; done) | (simp [bne]; rfl)), H', ⟨by have := HK1.out; omega⟩, by repeat (first | exact Drawn0.refl _ | apply Drawn0.step)⟩
     ·rw [if_neg c4] at H
      exact absurd H (by simp)
    ·rw [if_neg c3] at H
     exact absurd H (by simp)
   ·rw [if_neg c2] at H
    have c2b0 : decide (x7_1 < (a0.size : Int)) = false := decide_eq_false c2
    clear c2
    obtain rfl := Option.some.inj H
    go_wp2
    go_ret
    exact ⟨by first | rfl | (simp; done) | (simp [*]; done) | (simp [bne, List.isEmpty_iff]; done) | (simp [bne, List.isEmpty_iff, *]; done) | (simp [bne]; rfl), by repeat (first | exact Drawn0.refl _ | apply Drawn0.step)⟩

/-! ### tree_ends: function 69 -/
def tree_ends.f (a0 : Int) : Option (Bool) := if a0 ≥ 1 then (if a0 ≤ 4 then (some true) else (some (a0 == 8))) else (some (a0 == 8))
set_option maxHeartbeats 80000000 in
set_option maxRecDepth 100000 in
theorem tree_ends.calls (a0 : Int) (r : Bool) (w : World) (h : tree_ends.f a0 = some r) :
  Calls Tryz.prog 69 #[.int .u8 a0] w fun e w' => e = .returned (.bool r) ∧ Drawn0 w w' := by
 have H : (if a0 ≥ 1 then (if a0 ≤ 4 then (some true) else (some (a0 == 8))) else (some (a0 == 8))) = some r := h
 clear h
 by_cases c2 : a0 ≥ 1
 ·rw [if_pos c2] at H
  have c2b0 : decide (1 ≤ a0) = true := decide_eq_true c2
  clear c2
  by_cases c3 : a0 ≤ 4
  ·rw [if_pos c3] at H
   have c3b0 : decide (a0 ≤ 4) = true := decide_eq_true c3
   clear c3
   obtain rfl := Option.some.inj H
   go_enter Tryz.func69, Tryz.ntmps69
   go_wp2
   go_ret
   exact ⟨by first | rfl | (simp; done) | (simp [*]; done) | (simp [bne, List.isEmpty_iff]; done) | (simp [bne, List.isEmpty_iff, *]; done) | (simp [bne]; rfl), by repeat (first | exact Drawn0.refl _ | apply Drawn0.step)⟩
  ·rw [if_neg c3] at H
   have c3b0 : decide (a0 ≤ 4) = false := decide_eq_false c3
   clear c3
   obtain rfl := Option.some.inj H
   go_enter Tryz.func69, Tryz.ntmps69
   go_wp2
   go_ret
   exact ⟨by first | rfl | (simp; done) | (simp [*]; done) | (simp [bne, List.isEmpty_iff]; done) | (simp [bne, List.isEmpty_iff, *]; done) | (simp [bne]; rfl), by repeat (first | exact Drawn0.refl _ | apply Drawn0.step)⟩
 ·rw [if_neg c2] at H
  have c2b0 : decide (1 ≤ a0) = false := decide_eq_false c2
  clear c2
  obtain rfl := Option.some.inj H
  go_enter Tryz.func69, Tryz.ntmps69
  go_wp2
  go_ret
  exact ⟨by first | rfl | (simp; done) | (simp [*]; done) | (simp [bne, List.isEmpty_iff]; done) | (simp [bne, List.isEmpty_iff, *]; done) | (simp [bne]; rfl), by repeat (first | exact Drawn0.refl _ | apply Drawn0.step)⟩

/-! ### tree_wall: function 95 -/
def tree_wall.f (k : Nat) (a0 : ByteArray) : Option (Bool) := (tree_Kind.f k a0).bind fun t103 => (if t103 = 4 then (some true) else (if t103 = 1 then (some (a0.toList != ([100, 105, 118] : List UInt8))) else (some false)))
theorem tree_wall.mono : ∀ a0 k, LeO (tree_wall.f k a0) (tree_wall.f (k + 1) a0) := by
 intro a0 k
 unfold tree_wall.f
 repeat' first
   | (with_reducible exact tree_Kind.mono _ _)
   | (with_reducible exact LeO.refl _)
   | (with_reducible exact LeO.none _)
   | (with_reducible refine LeO.ite ?_ ?_)
   | (with_reducible refine LeO.bind ?_ (fun _ => ?_))
   | exact tree_Kind.mono _ _
   | exact LeO.none _
   | refine LeO.ite ?_ ?_
   | refine LeO.bind ?_ (fun _ => ?_)
set_option maxHeartbeats 80000000 in
set_option maxRecDepth 100000 in
theorem tree_wall.calls (k : Nat) (a0 : ByteArray) (r : Bool) (w : World) (h : tree_wall.f k a0 = some r) :
  Calls Tryz.prog 95 #[.string a0] w fun e w' => e = .returned (.bool r) ∧ Drawn0 w w' := by
 have H : ((tree_Kind.f k a0).bind fun t103 => (if t103 = 4 then (some true) else (if t103 = 1 then (some (a0.toList != ([100, 105, 118] : List UInt8))) else (some false)))) = some r := h
 clear h
 replace H := Option.bind_eq_some_iff.mp H
 obtain ⟨t103, A20, H⟩ := H
 replace H : (if t103 = 4 then (some true) else (if t103 = 1 then (some (a0.toList != ([100, 105, 118] : List UInt8))) else (some false))) = some r := H
 have A2 := Aside0.mk A20
 clear A20
 by_cases c3 : t103 = 4
 ·rw [if_pos c3] at H
  have c3b0 : (t103 == 4) = true := beq_iff_eq.mpr c3
  have c3b1 : (t103 != 4) = false := bne_eq_false_iff_eq.mpr c3
  clear c3
  obtain rfl := Option.some.inj H
  go_enter Tryz.func95, Tryz.ntmps95
  go_wp2_with (first | ((with_reducible refine gate_callee (f := 57) rfl ?_); refine goesL_ (some 5) rfl rfl Tryz.func57 (by kernel_rfl) rfl #[.string a0] rfl (by (try simp only [List.map_toArray, List.map_cons, List.map_nil]); first | done | rfl | (simp only [List.length_drop, List.length_take]; rfl)) ?_; (with_reducible refine (tree_Kind.calls k a0 t103 _ A2.out).mono ?_); rintro e w' ⟨rfl, ⟨nd, rfl⟩⟩; refine ⟨_, rfl, ?_⟩))
  go_ret
  exact ⟨by first | rfl | (simp; done) | (simp [*]; done) | (simp [bne, List.isEmpty_iff]; done) | (simp [bne, List.isEmpty_iff, *]; done) | (simp [bne]; rfl), by repeat (first | exact Drawn0.refl _ | apply Drawn0.step)⟩
 ·rw [if_neg c3] at H
  have c3b0 : (t103 == 4) = false := beq_eq_false_iff_ne.mpr c3
  have c3b1 : (t103 != 4) = true := bne_iff_ne.mpr c3
  by_cases c4 : t103 = 1
  ·rw [if_pos c4] at H
   have c4b0 : (t103 == 1) = true := beq_iff_eq.mpr c4
   have c4b1 : (t103 != 1) = false := bne_eq_false_iff_eq.mpr c4
   clear c4
   obtain rfl := Option.some.inj H
   go_enter Tryz.func95, Tryz.ntmps95
   go_wp2_with (first | ((with_reducible refine gate_callee (f := 57) rfl ?_); refine goesL_ (some 5) rfl rfl Tryz.func57 (by kernel_rfl) rfl #[.string a0] rfl (by (try simp only [List.map_toArray, List.map_cons, List.map_nil]); first | done | rfl | (simp only [List.length_drop, List.length_take]; rfl)) ?_; (with_reducible refine (tree_Kind.calls k a0 t103 _ A2.out).mono ?_); rintro e w' ⟨rfl, ⟨nd, rfl⟩⟩; refine ⟨_, rfl, ?_⟩))
   go_ret
   exact ⟨by first | rfl | (simp; done) | (simp [*]; done) | (simp [bne, List.isEmpty_iff]; done) | (simp [bne, List.isEmpty_iff, *]; done) | (simp [bne]; rfl), by repeat (first | exact Drawn0.refl _ | apply Drawn0.step)⟩
  ·rw [if_neg c4] at H
   have c4b0 : (t103 == 1) = false := beq_eq_false_iff_ne.mpr c4
   have c4b1 : (t103 != 1) = true := bne_iff_ne.mpr c4
   obtain rfl := Option.some.inj H
   go_enter Tryz.func95, Tryz.ntmps95
   go_wp2_with (first | ((with_reducible refine gate_callee (f := 57) rfl ?_); refine goesL_ (some 5) rfl rfl Tryz.func57 (by kernel_rfl) rfl #[.string a0] rfl (by (try simp only [List.map_toArray, List.map_cons, List.map_nil]); first | done | rfl | (simp only [List.length_drop, List.length_take]; rfl)) ?_; (with_reducible refine (tree_Kind.calls k a0 t103 _ A2.out).mono ?_); rintro e w' ⟨rfl, ⟨nd, rfl⟩⟩; refine ⟨_, rfl, ?_⟩))
   go_ret
   exact ⟨by first | rfl | (simp; done) | (simp [*]; done) | (simp [bne, List.isEmpty_iff]; done) | (simp [bne, List.isEmpty_iff, *]; done) | (simp [bne]; rfl), by repeat (first | exact Drawn0.refl _ | apply Drawn0.step)⟩

end Go.Proofs.YtpfhgolamlnhiaaGreatDoor.XA

namespace Go.Proofs.YtpfhgolamlnhiaaGreatDoor.XA
open Go.RowKit Go.Proofs.YtpfhgolamlnhiaaGreatDoor Go.Proofs.YtpfhgolamlnhiaaGreatDoor.XT Go.Proofs.YtpfhgolamlnhiaaGreatDoorW.PrintWords Go.Proofs.YtpfhgolamlnhiaaGreatDoorW.PrintLast Go.Proofs.YtpfhgolamlnhiaaGreatDoorW.PrintMore
attribute [local go_sem] max2_int min2_int max_two min_two max_three min_three max_four min_four   -- for this text's walks alone
set_option linter.unusedVariables false
set_option linter.unusedSimpArgs false

end Go.Proofs.YtpfhgolamlnhiaaGreatDoor.XA
