-- Written by wip/tools/px.py for this claim, by way of the kit's print of the translation. Lean checks it.
import Derived.Test.YtpfhgolamlnhiaaDoorXT
import Derived.Test.YtpfhgolamlnhiaaDoorExt1
namespace Go.Proofs.YtpfhgolamlnhiaaDoor.XA
open Go.RowKit Go.Proofs.YtpfhgolamlnhiaaDoor Go.Proofs.YtpfhgolamlnhiaaDoor.XT Go.Proofs.YtpfhgolamlnhiaaDoorW.PrintWords Go.Proofs.YtpfhgolamlnhiaaDoorW.PrintLast Go.Proofs.YtpfhgolamlnhiaaDoorW.PrintMore
attribute [local go_sem] max2_int min2_int max_two min_two max_three min_three max_four min_four   -- for this text's walks alone
set_option linter.unusedVariables false
set_option linter.unusedSimpArgs false

end Go.Proofs.YtpfhgolamlnhiaaDoor.XA

namespace Go.Proofs.YtpfhgolamlnhiaaDoor.XA
open Go.RowKit Go.Proofs.YtpfhgolamlnhiaaDoor Go.Proofs.YtpfhgolamlnhiaaDoor.XT Go.Proofs.YtpfhgolamlnhiaaDoorW.PrintWords Go.Proofs.YtpfhgolamlnhiaaDoorW.PrintLast Go.Proofs.YtpfhgolamlnhiaaDoorW.PrintMore
attribute [local go_sem] max2_int min2_int max_two min_two max_three min_three max_four min_four   -- for this text's walks alone
set_option linter.unusedVariables false
set_option linter.unusedSimpArgs false

/-! ### tree_Kind: function 16 -/
mutual
def tree_Kind.j0 : Nat → ByteArray → Bool → Option (Int)
 | 0, _, _ => none
 | k + 1, x3, x10 => if x10 = true then (some 7) else (if x3.toList = ([104, 114] : List UInt8) then (some 8) else (if x3.toList = ([100, 105, 118] : List UInt8) then (tree_Kind.j1 k x3 (x3.toList == ([100, 105, 118] : List UInt8))) else (if x3.toList = ([117, 108] : List UInt8) then (tree_Kind.j1 k x3 (x3.toList == ([117, 108] : List UInt8))) else (if x3.toList = ([111, 108] : List UInt8) then (tree_Kind.j1 k x3 (x3.toList == ([111, 108] : List UInt8))) else (if x3.toList = ([115, 101, 99, 116, 105, 111, 110] : List UInt8) then (tree_Kind.j1 k x3 (x3.toList == ([115, 101, 99, 116, 105, 111, 110] : List UInt8))) else (if x3.toList = ([97, 114, 116, 105, 99, 108, 101] : List UInt8) then (tree_Kind.j1 k x3 (x3.toList == ([97, 114, 116, 105, 99, 108, 101] : List UInt8))) else (if x3.toList = ([104, 101, 97, 100, 101, 114] : List UInt8) then (tree_Kind.j1 k x3 (x3.toList == ([104, 101, 97, 100, 101, 114] : List UInt8))) else (if x3.toList = ([102, 111, 111, 116, 101, 114] : List UInt8) then (tree_Kind.j1 k x3 (x3.toList == ([102, 111, 111, 116, 101, 114] : List UInt8))) else (if x3.toList = ([109, 97, 105, 110] : List UInt8) then (tree_Kind.j1 k x3 (x3.toList == ([109, 97, 105, 110] : List UInt8))) else (if x3.toList = ([110, 97, 118] : List UInt8) then (tree_Kind.j1 k x3 (x3.toList == ([110, 97, 118] : List UInt8))) else (if x3.toList = ([97, 115, 105, 100, 101] : List UInt8) then (tree_Kind.j1 k x3 (x3.toList == ([97, 115, 105, 100, 101] : List UInt8))) else (if x3.toList = ([98, 108, 111, 99, 107, 113, 117, 111, 116, 101] : List UInt8) then (tree_Kind.j1 k x3 (x3.toList == ([98, 108, 111, 99, 107, 113, 117, 111, 116, 101] : List UInt8))) else (tree_Kind.j1 k x3 (x3.toList == ([102, 105, 103, 117, 114, 101] : List UInt8)))))))))))))))
def tree_Kind.j1 : Nat → ByteArray → Bool → Option (Int)
 | 0, _, _ => none
 | k + 1, x3, x15 => if x15 = true then (some 1) else (if x3.toList = ([104, 49] : List UInt8) then (tree_Kind.j2 k x3 (x3.toList == ([104, 49] : List UInt8))) else (if x3.toList = ([104, 50] : List UInt8) then (tree_Kind.j2 k x3 (x3.toList == ([104, 50] : List UInt8))) else (if x3.toList = ([104, 51] : List UInt8) then (tree_Kind.j2 k x3 (x3.toList == ([104, 51] : List UInt8))) else (if x3.toList = ([104, 52] : List UInt8) then (tree_Kind.j2 k x3 (x3.toList == ([104, 52] : List UInt8))) else (if x3.toList = ([104, 53] : List UInt8) then (tree_Kind.j2 k x3 (x3.toList == ([104, 53] : List UInt8))) else (tree_Kind.j2 k x3 (x3.toList == ([104, 54] : List UInt8))))))))
def tree_Kind.j2 : Nat → ByteArray → Bool → Option (Int)
 | 0, _, _ => none
 | k + 1, x3, x28 => if x28 = true then (some 4) else (if x3.toList = ([115, 112, 97, 110] : List UInt8) then (some 5) else (if x3.toList = ([98] : List UInt8) then (some 5) else (if x3.toList = ([105] : List UInt8) then (some 5) else (if x3.toList = ([101, 109] : List UInt8) then (some 5) else (if x3.toList = ([115, 116, 114, 111, 110, 103] : List UInt8) then (some 5) else (if x3.toList = ([117] : List UInt8) then (some 5) else (if x3.toList = ([115] : List UInt8) then (some 5) else (if x3.toList = ([115, 109, 97, 108, 108] : List UInt8) then (some 5) else (if x3.toList = ([99, 111, 100, 101] : List UInt8) then (some 5) else (if x3.toList = ([98, 100, 105] : List UInt8) then (some 5) else (if x3.toList = ([98, 100, 111] : List UInt8) then (some 5) else (if x3.toList = ([97, 98, 98, 114] : List UInt8) then (some 5) else (if x3.toList = ([99, 105, 116, 101] : List UInt8) then (some 5) else (if x3.toList = ([113] : List UInt8) then (some 5) else (if x3.toList = ([115, 117, 98] : List UInt8) then (some 5) else (if x3.toList = ([115, 117, 112] : List UInt8) then (some 5) else (if x3.toList = ([109, 97, 114, 107] : List UInt8) then (some 5) else (some 0))))))))))))))))))
end
def tree_Kind.f (k : Nat) (a0 : ByteArray) : Option (Int) := if a0.toList = ([112] : List UInt8) then (some 2) else (if a0.toList = ([108, 105] : List UInt8) then (some 3) else (if a0.toList = ([97] : List UInt8) then (some 6) else (if a0.toList = ([98, 114] : List UInt8) then (tree_Kind.j0 k a0 (a0.toList == ([98, 114] : List UInt8))) else (tree_Kind.j0 k a0 (a0.toList == ([119, 98, 114] : List UInt8))))))
theorem tree_Kind.mono_l : ∀ k, (∀ y0 y1, LeO (tree_Kind.j0 k y0 y1) (tree_Kind.j0 (k + 1) y0 y1)) ∧ (∀ y0 y1, LeO (tree_Kind.j1 k y0 y1) (tree_Kind.j1 (k + 1) y0 y1)) ∧ (∀ y0 y1, LeO (tree_Kind.j2 k y0 y1) (tree_Kind.j2 (k + 1) y0 y1))
 | 0 => ⟨fun _ _ r h => by simp [tree_Kind.j0] at h, fun _ _ r h => by simp [tree_Kind.j1] at h, fun _ _ r h => by simp [tree_Kind.j2] at h⟩
 | k + 1 => by
  obtain ⟨ih0, ih1, ih2⟩ := tree_Kind.mono_l k
  refine ⟨?_, ?_, ?_⟩
  ·intro y0 y1
   unfold tree_Kind.j0
   repeat' first
   | (with_reducible exact ih0 _ _)
   | (with_reducible exact ih1 _ _)
   | (with_reducible exact ih2 _ _)
   | (with_reducible exact LeO.refl _)
   | (with_reducible exact LeO.none _)
   | (with_reducible refine LeO.ite ?_ ?_)
   | (with_reducible refine LeO.bind ?_ (fun _ => ?_))
   | exact ih0 _ _
   | exact ih1 _ _
   | exact ih2 _ _
   | exact LeO.none _
   | refine LeO.ite ?_ ?_
   | refine LeO.bind ?_ (fun _ => ?_)
  ·intro y0 y1
   unfold tree_Kind.j1
   repeat' first
   | (with_reducible exact ih0 _ _)
   | (with_reducible exact ih1 _ _)
   | (with_reducible exact ih2 _ _)
   | (with_reducible exact LeO.refl _)
   | (with_reducible exact LeO.none _)
   | (with_reducible refine LeO.ite ?_ ?_)
   | (with_reducible refine LeO.bind ?_ (fun _ => ?_))
   | exact ih0 _ _
   | exact ih1 _ _
   | exact ih2 _ _
   | exact LeO.none _
   | refine LeO.ite ?_ ?_
   | refine LeO.bind ?_ (fun _ => ?_)
  ·intro y0 y1
   unfold tree_Kind.j2
   repeat' first
   | (with_reducible exact ih0 _ _)
   | (with_reducible exact ih1 _ _)
   | (with_reducible exact ih2 _ _)
   | (with_reducible exact LeO.refl _)
   | (with_reducible exact LeO.none _)
   | (with_reducible refine LeO.ite ?_ ?_)
   | (with_reducible refine LeO.bind ?_ (fun _ => ?_))
   | exact ih0 _ _
   | exact ih1 _ _
   | exact ih2 _ _
   | exact LeO.none _
   | refine LeO.ite ?_ ?_
   | refine LeO.bind ?_ (fun _ => ?_)
theorem tree_Kind.mono : ∀ a0 k, LeO (tree_Kind.f k a0) (tree_Kind.f (k + 1) a0) := by
 intro a0 k
 obtain ⟨ih0, ih1, ih2⟩ := tree_Kind.mono_l k
 unfold tree_Kind.f
 repeat' first
   | (with_reducible exact ih0 _ _)
   | (with_reducible exact ih1 _ _)
   | (with_reducible exact ih2 _ _)
   | (with_reducible exact LeO.refl _)
   | (with_reducible exact LeO.none _)
   | (with_reducible refine LeO.ite ?_ ?_)
   | (with_reducible refine LeO.bind ?_ (fun _ => ?_))
   | exact ih0 _ _
   | exact ih1 _ _
   | exact ih2 _ _
   | exact LeO.none _
   | refine LeO.ite ?_ ?_
   | refine LeO.bind ?_ (fun _ => ?_)
set_option maxHeartbeats 80000000 in
set_option maxRecDepth 100000 in
theorem tree_Kind.calls (k : Nat) (a0 : ByteArray) (r : Int) (w : World) (h : tree_Kind.f k a0 = some r) :
  Calls Tryd.prog 16 #[.string a0] w fun e w' => e = .returned (.int .u8 r) ∧ Drawn0 w w' := by
 have H : (if a0.toList = ([112] : List UInt8) then (some 2) else (if a0.toList = ([108, 105] : List UInt8) then (some 3) else (if a0.toList = ([97] : List UInt8) then (some 6) else (if a0.toList = ([98, 114] : List UInt8) then (tree_Kind.j0 k a0 (a0.toList == ([98, 114] : List UInt8))) else (tree_Kind.j0 k a0 (a0.toList == ([119, 98, 114] : List UInt8))))))) = some r := h
 clear h
 by_cases c2 : a0.toList = ([112] : List UInt8)
 ·rw [if_pos c2] at H
  have c2b0 : (a0.toList == ([112] : List UInt8)) = true := beq_iff_eq.mpr c2
  have c2b1 : (a0.toList != ([112] : List UInt8)) = false := bne_eq_false_iff_eq.mpr c2
  clear c2
  obtain rfl := Option.some.inj H
  go_enter Tryd.func16, Tryd.ntmps16
  go_wp2
  go_ret
  exact ⟨by first | rfl | (simp; done) | (simp [*]; done) | (simp [bne, List.isEmpty_iff]; done) | (simp [bne, List.isEmpty_iff, *]; done) | (simp [bne]; rfl), by repeat (first | exact Drawn0.refl _ | apply Drawn0.step)⟩
 ·rw [if_neg c2] at H
  have c2b0 : (a0.toList == ([112] : List UInt8)) = false := beq_eq_false_iff_ne.mpr c2
  have c2b1 : (a0.toList != ([112] : List UInt8)) = true := bne_iff_ne.mpr c2
  by_cases c3 : a0.toList = ([108, 105] : List UInt8)
  ·rw [if_pos c3] at H
   have c3b0 : (a0.toList == ([108, 105] : List UInt8)) = true := beq_iff_eq.mpr c3
   have c3b1 : (a0.toList != ([108, 105] : List UInt8)) = false := bne_eq_false_iff_eq.mpr c3
   clear c3
   obtain rfl := Option.some.inj H
   go_enter Tryd.func16, Tryd.ntmps16
   go_wp2
   go_ret
   exact ⟨by first | rfl | (simp; done) | (simp [*]; done) | (simp [bne, List.isEmpty_iff]; done) | (simp [bne, List.isEmpty_iff, *]; done) | (simp [bne]; rfl), by repeat (first | exact Drawn0.refl _ | apply Drawn0.step)⟩
  ·rw [if_neg c3] at H
   have c3b0 : (a0.toList == ([108, 105] : List UInt8)) = false := beq_eq_false_iff_ne.mpr c3
   have c3b1 : (a0.toList != ([108, 105] : List UInt8)) = true := bne_iff_ne.mpr c3
   by_cases c4 : a0.toList = ([97] : List UInt8)
   ·rw [if_pos c4] at H
    have c4b0 : (a0.toList == ([97] : List UInt8)) = true := beq_iff_eq.mpr c4
    have c4b1 : (a0.toList != ([97] : List UInt8)) = false := bne_eq_false_iff_eq.mpr c4
    clear c4
    obtain rfl := Option.some.inj H
    go_enter Tryd.func16, Tryd.ntmps16
    go_wp2
    go_ret
    exact ⟨by first | rfl | (simp; done) | (simp [*]; done) | (simp [bne, List.isEmpty_iff]; done) | (simp [bne, List.isEmpty_iff, *]; done) | (simp [bne]; rfl), by repeat (first | exact Drawn0.refl _ | apply Drawn0.step)⟩
   ·rw [if_neg c4] at H
    have c4b0 : (a0.toList == ([97] : List UInt8)) = false := beq_eq_false_iff_ne.mpr c4
    have c4b1 : (a0.toList != ([97] : List UInt8)) = true := bne_iff_ne.mpr c4
    have HC5 := Aside0.mk H
    clear H
    go_enter Tryd.func16, Tryd.ntmps16
    go_upto_if 10 with (fail)
    go_cut [10] (fun v10 wc => ∃ (kq : Nat) (x10_4 : Bool), v10 = .bool x10_4 ∧ Aside0 (tree_Kind.j0 kq a0 x10_4 = some r) ∧ Aside0 (kq ≤ k) ∧ Drawn0 w wc)
    case first =>
     have H := HC5.out
     clear HC5
     by_cases c6 : a0.toList = ([98, 114] : List UInt8)
     ·rw [if_pos c6] at H
      have c6b0 : (a0.toList == ([98, 114] : List UInt8)) = true := beq_iff_eq.mpr c6
      have c6b1 : (a0.toList != ([98, 114] : List UInt8)) = false := bne_eq_false_iff_eq.mpr c6
      clear c6
      (first | rw [c6b0] | (simp only [i64_w, i32_w]; rw [c6b0]) | skip)
      have H' := Aside0.mk H
      clear H
      go_wp2
      go_meet
      case rel => exact ⟨_, ((a0.toList == ([98, 114] : List UInt8))), (by first | rfl | (simp; done) | (simp [*]; done) | (simp [bne, List.isEmpty_iff]; done) | (simp [bne, List.isEmpty_iff, *]; done) | (simp [bne]; rfl)), H', ⟨by first | omega | exact Nat.le_refl _⟩, by repeat (first | exact Drawn0.refl _ | apply Drawn0.step)⟩
     ·rw [if_neg c6] at H
      have c6b0 : (a0.toList == ([98, 114] : List UInt8)) = false := beq_eq_false_iff_ne.mpr c6
      have c6b1 : (a0.toList != ([98, 114] : List UInt8)) = true := bne_iff_ne.mpr c6
      (first | rw [c6b0] | (simp only [i64_w, i32_w]; rw [c6b0]) | skip)
      have H' := Aside0.mk H
      clear H
      go_wp2
      go_meet
      case rel => exact ⟨_, ((a0.toList == ([119, 98, 114] : List UInt8))), (by first | rfl | (simp; done) | (simp [*]; done) | (simp [bne, List.isEmpty_iff]; done) | (simp [bne, List.isEmpty_iff, *]; done) | (simp [bne]; rfl)), H', ⟨by first | omega | exact Nat.le_refl _⟩, by repeat (first | exact Drawn0.refl _ | apply Drawn0.step)⟩
    case rest =>
     clear HC5
     try clear c1
     try clear c2
     try clear c2b0
     try clear c2b1
     try clear p2
     try clear c3
     try clear c3b0
     try clear c3b1
     try clear c4
     try clear c4b0
     try clear c4b1
     try clear c6
     try clear c6b0
     try clear c6b1
     obtain ⟨kq, x10_4, rfl, HA, HJ4, ⟨mc4, rfl⟩⟩ := hcut
     cases kq with
     | zero => exact absurd HA.out (by simp [tree_Kind.j0])
     | succ kj4 =>
      have H := HA.out
      clear HA
      simp only [tree_Kind.j0] at H
      by_cases c7 : x10_4 = true
      ·subst c7
       have H1 : (some 7) = some r := by rw [if_pos rfl] at H; exact H
       clear H
       have H := H1
       clear H1
       obtain rfl := Option.some.inj H
       go_wp2
       go_ret
       exact ⟨by first | rfl | (simp; done) | (simp [*]; done) | (simp [bne, List.isEmpty_iff]; done) | (simp [bne, List.isEmpty_iff, *]; done) | (simp [bne]; rfl), by repeat (first | exact Drawn0.refl _ | apply Drawn0.step)⟩
      ·replace c7 := Bool.eq_false_iff.mpr c7
       subst c7
       have H1 : (if a0.toList = ([104, 114] : List UInt8) then (some 8) else (if a0.toList = ([100, 105, 118] : List UInt8) then (tree_Kind.j1 kj4 a0 (a0.toList == ([100, 105, 118] : List UInt8))) else (if a0.toList = ([117, 108] : List UInt8) then (tree_Kind.j1 kj4 a0 (a0.toList == ([117, 108] : List UInt8))) else (if a0.toList = ([111, 108] : List UInt8) then (tree_Kind.j1 kj4 a0 (a0.toList == ([111, 108] : List UInt8))) else (if a0.toList = ([115, 101, 99, 116, 105, 111, 110] : List UInt8) then (tree_Kind.j1 kj4 a0 (a0.toList == ([115, 101, 99, 116, 105, 111, 110] : List UInt8))) else (if a0.toList = ([97, 114, 116, 105, 99, 108, 101] : List UInt8) then (tree_Kind.j1 kj4 a0 (a0.toList == ([97, 114, 116, 105, 99, 108, 101] : List UInt8))) else (if a0.toList = ([104, 101, 97, 100, 101, 114] : List UInt8) then (tree_Kind.j1 kj4 a0 (a0.toList == ([104, 101, 97, 100, 101, 114] : List UInt8))) else (if a0.toList = ([102, 111, 111, 116, 101, 114] : List UInt8) then (tree_Kind.j1 kj4 a0 (a0.toList == ([102, 111, 111, 116, 101, 114] : List UInt8))) else (if a0.toList = ([109, 97, 105, 110] : List UInt8) then (tree_Kind.j1 kj4 a0 (a0.toList == ([109, 97, 105, 110] : List UInt8))) else (if a0.toList = ([110, 97, 118] : List UInt8) then (tree_Kind.j1 kj4 a0 (a0.toList == ([110, 97, 118] : List UInt8))) else (if a0.toList = ([97, 115, 105, 100, 101] : List UInt8) then (tree_Kind.j1 kj4 a0 (a0.toList == ([97, 115, 105, 100, 101] : List UInt8))) else (if a0.toList = ([98, 108, 111, 99, 107, 113, 117, 111, 116, 101] : List UInt8) then (tree_Kind.j1 kj4 a0 (a0.toList == ([98, 108, 111, 99, 107, 113, 117, 111, 116, 101] : List UInt8))) else (tree_Kind.j1 kj4 a0 (a0.toList == ([102, 105, 103, 117, 114, 101] : List UInt8))))))))))))))) = some r := by rw [if_neg (show ¬ (false = true) by decide)] at H; exact H
       clear H
       have H := H1
       clear H1
       by_cases c8 : a0.toList = ([104, 114] : List UInt8)
       ·rw [if_pos c8] at H
        have c8b0 : (a0.toList == ([104, 114] : List UInt8)) = true := beq_iff_eq.mpr c8
        have c8b1 : (a0.toList != ([104, 114] : List UInt8)) = false := bne_eq_false_iff_eq.mpr c8
        clear c8
        obtain rfl := Option.some.inj H
        go_wp2
        go_ret
        exact ⟨by first | rfl | (simp; done) | (simp [*]; done) | (simp [bne, List.isEmpty_iff]; done) | (simp [bne, List.isEmpty_iff, *]; done) | (simp [bne]; rfl), by repeat (first | exact Drawn0.refl _ | apply Drawn0.step)⟩
       ·rw [if_neg c8] at H
        have c8b0 : (a0.toList == ([104, 114] : List UInt8)) = false := beq_eq_false_iff_ne.mpr c8
        have c8b1 : (a0.toList != ([104, 114] : List UInt8)) = true := bne_iff_ne.mpr c8
        have HC9 := Aside0.mk H
        clear H
        go_upto_if 15 with (fail)
        go_cut [15] (fun v15 wc => ∃ (kq : Nat) (x15_8 : Bool), v15 = .bool x15_8 ∧ Aside0 (tree_Kind.j1 kq a0 x15_8 = some r) ∧ Aside0 (kq ≤ kj4) ∧ Drawn0 w wc)
        case first =>
         have H := HC9.out
         clear HC9
         by_cases c10 : a0.toList = ([100, 105, 118] : List UInt8)
         ·rw [if_pos c10] at H
          have c10b0 : (a0.toList == ([100, 105, 118] : List UInt8)) = true := beq_iff_eq.mpr c10
          have c10b1 : (a0.toList != ([100, 105, 118] : List UInt8)) = false := bne_eq_false_iff_eq.mpr c10
          clear c10
          (first | rw [c10b0] | (simp only [i64_w, i32_w]; rw [c10b0]) | skip)
          have H' := Aside0.mk H
          clear H
          go_wp2
          go_meet
          case rel => exact ⟨_, ((a0.toList == ([100, 105, 118] : List UInt8))), (by first | rfl | (simp; done) | (simp [*]; done) | (simp [bne, List.isEmpty_iff]; done) | (simp [bne, List.isEmpty_iff, *]; done) | (simp [bne]; rfl)), H', ⟨by have := HJ4.out; first | omega | exact Nat.le_refl _⟩, by repeat (first | exact Drawn0.refl _ | apply Drawn0.step)⟩
         ·rw [if_neg c10] at H
          have c10b0 : (a0.toList == ([100, 105, 118] : List UInt8)) = false := beq_eq_false_iff_ne.mpr c10
          have c10b1 : (a0.toList != ([100, 105, 118] : List UInt8)) = true := bne_iff_ne.mpr c10
          (first | rw [c10b0] | (simp only [i64_w, i32_w]; rw [c10b0]) | skip)
          by_cases c11 : a0.toList = ([117, 108] : List UInt8)
          ·rw [if_pos c11] at H
           have c11b0 : (a0.toList == ([117, 108] : List UInt8)) = true := beq_iff_eq.mpr c11
           have c11b1 : (a0.toList != ([117, 108] : List UInt8)) = false := bne_eq_false_iff_eq.mpr c11
           clear c11
           have H' := Aside0.mk H
           clear H
           go_wp2
           go_meet
           case rel => exact ⟨_, ((a0.toList == ([117, 108] : List UInt8))), (by first | rfl | (simp; done) | (simp [*]; done) | (simp [bne, List.isEmpty_iff]; done) | (simp [bne, List.isEmpty_iff, *]; done) | (simp [bne]; rfl)), H', ⟨by have := HJ4.out; first | omega | exact Nat.le_refl _⟩, by repeat (first | exact Drawn0.refl _ | apply Drawn0.step)⟩
          ·rw [if_neg c11] at H
           have c11b0 : (a0.toList == ([117, 108] : List UInt8)) = false := beq_eq_false_iff_ne.mpr c11
           have c11b1 : (a0.toList != ([117, 108] : List UInt8)) = true := bne_iff_ne.mpr c11
           by_cases c12 : a0.toList = ([111, 108] : List UInt8)
           ·rw [if_pos c12] at H
            have c12b0 : (a0.toList == ([111, 108] : List UInt8)) = true := beq_iff_eq.mpr c12
            have c12b1 : (a0.toList != ([111, 108] : List UInt8)) = false := bne_eq_false_iff_eq.mpr c12
            clear c12
            have H' := Aside0.mk H
            clear H
            go_wp2
            go_meet
            case rel => exact ⟨_, ((a0.toList == ([111, 108] : List UInt8))), (by first | rfl | (simp; done) | (simp [*]; done) | (simp [bne, List.isEmpty_iff]; done) | (simp [bne, List.isEmpty_iff, *]; done) | (simp [bne]; rfl)), H', ⟨by have := HJ4.out; first | omega | exact Nat.le_refl _⟩, by repeat (first | exact Drawn0.refl _ | apply Drawn0.step)⟩
           ·rw [if_neg c12] at H
            have c12b0 : (a0.toList == ([111, 108] : List UInt8)) = false := beq_eq_false_iff_ne.mpr c12
            have c12b1 : (a0.toList != ([111, 108] : List UInt8)) = true := bne_iff_ne.mpr c12
            by_cases c13 : a0.toList = ([115, 101, 99, 116, 105, 111, 110] : List UInt8)
            ·rw [if_pos c13] at H
             have c13b0 : (a0.toList == ([115, 101, 99, 116, 105, 111, 110] : List UInt8)) = true := beq_iff_eq.mpr c13
             have c13b1 : (a0.toList != ([115, 101, 99, 116, 105, 111, 110] : List UInt8)) = false := bne_eq_false_iff_eq.mpr c13
             clear c13
             have H' := Aside0.mk H
             clear H
             go_wp2
             go_meet
             case rel => exact ⟨_, ((a0.toList == ([115, 101, 99, 116, 105, 111, 110] : List UInt8))), (by first | rfl | (simp; done) | (simp [*]; done) | (simp [bne, List.isEmpty_iff]; done) | (simp [bne, List.isEmpty_iff, *]; done) | (simp [bne]; rfl)), H', ⟨by have := HJ4.out; first | omega | exact Nat.le_refl _⟩, by repeat (first | exact Drawn0.refl _ | apply Drawn0.step)⟩
            ·rw [if_neg c13] at H
             have c13b0 : (a0.toList == ([115, 101, 99, 116, 105, 111, 110] : List UInt8)) = false := beq_eq_false_iff_ne.mpr c13
             have c13b1 : (a0.toList != ([115, 101, 99, 116, 105, 111, 110] : List UInt8)) = true := bne_iff_ne.mpr c13
             by_cases c14 : a0.toList = ([97, 114, 116, 105, 99, 108, 101] : List UInt8)
             ·rw [if_pos c14] at H
              have c14b0 : (a0.toList == ([97, 114, 116, 105, 99, 108, 101] : List UInt8)) = true := beq_iff_eq.mpr c14
              have c14b1 : (a0.toList != ([97, 114, 116, 105, 99, 108, 101] : List UInt8)) = false := bne_eq_false_iff_eq.mpr c14
              clear c14
              have H' := Aside0.mk H
              clear H
              go_wp2
              go_meet
              case rel => exact ⟨_, ((a0.toList == ([97, 114, 116, 105, 99, 108, 101] : List UInt8))), (by first | rfl | (simp; done) | (simp [*]; done) | (simp [bne, List.isEmpty_iff]; done) | (simp [bne, List.isEmpty_iff, *]; done) | (simp [bne]; rfl)), H', ⟨by have := HJ4.out; first | omega | exact Nat.le_refl _⟩, by repeat (first | exact Drawn0.refl _ | apply Drawn0.step)⟩
             ·rw [if_neg c14] at H
              have c14b0 : (a0.toList == ([97, 114, 116, 105, 99, 108, 101] : List UInt8)) = false := beq_eq_false_iff_ne.mpr c14
              have c14b1 : (a0.toList != ([97, 114, 116, 105, 99, 108, 101] : List UInt8)) = true := bne_iff_ne.mpr c14
              by_cases c15 : a0.toList = ([104, 101, 97, 100, 101, 114] : List UInt8)
              ·rw [if_pos c15] at H
               have c15b0 : (a0.toList == ([104, 101, 97, 100, 101, 114] : List UInt8)) = true := beq_iff_eq.mpr c15
               have c15b1 : (a0.toList != ([104, 101, 97, 100, 101, 114] : List UInt8)) = false := bne_eq_false_iff_eq.mpr c15
               clear c15
               have H' := Aside0.mk H
               clear H
               go_wp2
               go_meet
               case rel => exact ⟨_, ((a0.toList == ([104, 101, 97, 100, 101, 114] : List UInt8))), (by first | rfl | (simp; done) | (simp [*]; done) | (simp [bne, List.isEmpty_iff]; done) | (simp [bne, List.isEmpty_iff, *]; done) | (simp [bne]; rfl)), H', ⟨by have := HJ4.out; first | omega | exact Nat.le_refl _⟩, by repeat (first | exact Drawn0.refl _ | apply Drawn0.step)⟩
              ·rw [if_neg c15] at H
               have c15b0 : (a0.toList == ([104, 101, 97, 100, 101, 114] : List UInt8)) = false := beq_eq_false_iff_ne.mpr c15
               have c15b1 : (a0.toList != ([104, 101, 97, 100, 101, 114] : List UInt8)) = true := bne_iff_ne.mpr c15
               by_cases c16 : a0.toList = ([102, 111, 111, 116, 101, 114] : List UInt8)
               ·rw [if_pos c16] at H
                have c16b0 : (a0.toList == ([102, 111, 111, 116, 101, 114] : List UInt8)) = true := beq_iff_eq.mpr c16
                have c16b1 : (a0.toList != ([102, 111, 111, 116, 101, 114] : List UInt8)) = false := bne_eq_false_iff_eq.mpr c16
                clear c16
                have H' := Aside0.mk H
                clear H
                go_wp2
                go_meet
                case rel => exact ⟨_, ((a0.toList == ([102, 111, 111, 116, 101, 114] : List UInt8))), (by first | rfl | (simp; done) | (simp [*]; done) | (simp [bne, List.isEmpty_iff]; done) | (simp [bne, List.isEmpty_iff, *]; done) | (simp [bne]; rfl)), H', ⟨by have := HJ4.out; first | omega | exact Nat.le_refl _⟩, by repeat (first | exact Drawn0.refl _ | apply Drawn0.step)⟩
               ·rw [if_neg c16] at H
                have c16b0 : (a0.toList == ([102, 111, 111, 116, 101, 114] : List UInt8)) = false := beq_eq_false_iff_ne.mpr c16
                have c16b1 : (a0.toList != ([102, 111, 111, 116, 101, 114] : List UInt8)) = true := bne_iff_ne.mpr c16
                by_cases c17 : a0.toList = ([109, 97, 105, 110] : List UInt8)
                ·rw [if_pos c17] at H
                 have c17b0 : (a0.toList == ([109, 97, 105, 110] : List UInt8)) = true := beq_iff_eq.mpr c17
                 have c17b1 : (a0.toList != ([109, 97, 105, 110] : List UInt8)) = false := bne_eq_false_iff_eq.mpr c17
                 clear c17
                 have H' := Aside0.mk H
                 clear H
                 go_wp2
                 go_meet
                 case rel => exact ⟨_, ((a0.toList == ([109, 97, 105, 110] : List UInt8))), (by first | rfl | (simp; done) | (simp [*]; done) | (simp [bne, List.isEmpty_iff]; done) | (simp [bne, List.isEmpty_iff, *]; done) | (simp [bne]; rfl)), H', ⟨by have := HJ4.out; first | omega | exact Nat.le_refl _⟩, by repeat (first | exact Drawn0.refl _ | apply Drawn0.step)⟩
                ·rw [if_neg c17] at H
                 have c17b0 : (a0.toList == ([109, 97, 105, 110] : List UInt8)) = false := beq_eq_false_iff_ne.mpr c17
                 have c17b1 : (a0.toList != ([109, 97, 105, 110] : List UInt8)) = true := bne_iff_ne.mpr c17
                 by_cases c18 : a0.toList = ([110, 97, 118] : List UInt8)
                 ·rw [if_pos c18] at H
                  have c18b0 : (a0.toList == ([110, 97, 118] : List UInt8)) = true := beq_iff_eq.mpr c18
                  have c18b1 : (a0.toList != ([110, 97, 118] : List UInt8)) = false := bne_eq_false_iff_eq.mpr c18
                  clear c18
                  have H' := Aside0.mk H
                  clear H
                  go_wp2
                  go_meet
                  case rel => exact ⟨_, ((a0.toList == ([110, 97, 118] : List UInt8))), (by first | rfl | (simp; done) | (simp [*]; done) | (simp [bne, List.isEmpty_iff]; done) | (simp [bne, List.isEmpty_iff, *]; done) | (simp [bne]; rfl)), H', ⟨by have := HJ4.out; first | omega | exact Nat.le_refl _⟩, by repeat (first | exact Drawn0.refl _ | apply Drawn0.step)⟩
                 ·rw [if_neg c18] at H
                  have c18b0 : (a0.toList == ([110, 97, 118] : List UInt8)) = false := beq_eq_false_iff_ne.mpr c18
                  have c18b1 : (a0.toList != ([110, 97, 118] : List UInt8)) = true := bne_iff_ne.mpr c18
                  by_cases c19 : a0.toList = ([97, 115, 105, 100, 101] : List UInt8)
                  ·rw [if_pos c19] at H
                   have c19b0 : (a0.toList == ([97, 115, 105, 100, 101] : List UInt8)) = true := beq_iff_eq.mpr c19
                   have c19b1 : (a0.toList != ([97, 115, 105, 100, 101] : List UInt8)) = false := bne_eq_false_iff_eq.mpr c19
                   clear c19
                   have H' := Aside0.mk H
                   clear H
                   go_wp2
                   go_meet
                   case rel => exact ⟨_, ((a0.toList == ([97, 115, 105, 100, 101] : List UInt8))), (by first | rfl | (simp; done) | (simp [*]; done) | (simp [bne, List.isEmpty_iff]; done) | (simp [bne, List.isEmpty_iff, *]; done) | (simp [bne]; rfl)), H', ⟨by have := HJ4.out; first | omega | exact Nat.le_refl _⟩, by repeat (first | exact Drawn0.refl _ | apply Drawn0.step)⟩
                  ·rw [if_neg c19] at H
                   have c19b0 : (a0.toList == ([97, 115, 105, 100, 101] : List UInt8)) = false := beq_eq_false_iff_ne.mpr c19
                   have c19b1 : (a0.toList != ([97, 115, 105, 100, 101] : List UInt8)) = true := bne_iff_ne.mpr c19
                   by_cases c20 : a0.toList = ([98, 108, 111, 99, 107, 113, 117, 111, 116, 101] : List UInt8)
                   ·rw [if_pos c20] at H
                    have c20b0 : (a0.toList == ([98, 108, 111, 99, 107, 113, 117, 111, 116, 101] : List UInt8)) = true := beq_iff_eq.mpr c20
                    have c20b1 : (a0.toList != ([98, 108, 111, 99, 107, 113, 117, 111, 116, 101] : List UInt8)) = false := bne_eq_false_iff_eq.mpr c20
                    clear c20
                    have H' := Aside0.mk H
                    clear H
                    go_wp2
                    go_meet
                    case rel => exact ⟨_, ((a0.toList == ([98, 108, 111, 99, 107, 113, 117, 111, 116, 101] : List UInt8))), (by first | rfl | (simp; done) | (simp [*]; done) | (simp [bne, List.isEmpty_iff]; done) | (simp [bne, List.isEmpty_iff, *]; done) | (simp [bne]; rfl)), H', ⟨by have := HJ4.out; first | omega | exact Nat.le_refl _⟩, by repeat (first | exact Drawn0.refl _ | apply Drawn0.step)⟩
                   ·rw [if_neg c20] at H
                    have c20b0 : (a0.toList == ([98, 108, 111, 99, 107, 113, 117, 111, 116, 101] : List UInt8)) = false := beq_eq_false_iff_ne.mpr c20
                    have c20b1 : (a0.toList != ([98, 108, 111, 99, 107, 113, 117, 111, 116, 101] : List UInt8)) = true := bne_iff_ne.mpr c20
                    have H' := Aside0.mk H
                    clear H
                    go_wp2
                    go_meet
                    case rel => exact ⟨_, ((a0.toList == ([102, 105, 103, 117, 114, 101] : List UInt8))), (by first | rfl | (simp; done) | (simp [*]; done) | (simp [bne, List.isEmpty_iff]; done) | (simp [bne, List.isEmpty_iff, *]; done) | (simp [bne]; rfl)), H', ⟨by have := HJ4.out; first | omega | exact Nat.le_refl _⟩, by repeat (first | exact Drawn0.refl _ | apply Drawn0.step)⟩
        case rest =>
         clear HC9
         try clear c1
         try clear c2
         try clear c2b0
         try clear c2b1
         try clear p2
         try clear c3
         try clear c3b0
         try clear c3b1
         try clear c4
         try clear c4b0
         try clear c4b1
         try clear c6
         try clear c6b0
         try clear c6b1
         try clear c7
         try clear c8
         try clear c8b0
         try clear c8b1
         try clear c10
         try clear c10b0
         try clear c10b1
         try clear c11
         try clear c11b0
         try clear c11b1
         try clear c12
         try clear c12b0
         try clear c12b1
         try clear c13
         try clear c13b0
         try clear c13b1
         try clear c14
         try clear c14b0
         try clear c14b1
         try clear c15
         try clear c15b0
         try clear c15b1
         try clear c16
         try clear c16b0
         try clear c16b1
         try clear c17
         try clear c17b0
         try clear c17b1
         try clear c18
         try clear c18b0
         try clear c18b1
         try clear c19
         try clear c19b0
         try clear c19b1
         try clear c20
         try clear c20b0
         try clear c20b1
         try clear p2
         obtain ⟨kq, x15_8, rfl, HA, HJ8, ⟨mc8, rfl⟩⟩ := hcut
         cases kq with
         | zero => exact absurd HA.out (by simp [tree_Kind.j1])
         | succ kj8 =>
          have H := HA.out
          clear HA
          simp only [tree_Kind.j1] at H
          by_cases c21 : x15_8 = true
          ·subst c21
           have H1 : (some 1) = some r := by rw [if_pos rfl] at H; exact H
           clear H
           have H := H1
           clear H1
           obtain rfl := Option.some.inj H
           go_wp2
           go_ret
           exact ⟨by first | rfl | (simp; done) | (simp [*]; done) | (simp [bne, List.isEmpty_iff]; done) | (simp [bne, List.isEmpty_iff, *]; done) | (simp [bne]; rfl), by repeat (first | exact Drawn0.refl _ | apply Drawn0.step)⟩
          ·replace c21 := Bool.eq_false_iff.mpr c21
           subst c21
           have H1 : (if a0.toList = ([104, 49] : List UInt8) then (tree_Kind.j2 kj8 a0 (a0.toList == ([104, 49] : List UInt8))) else (if a0.toList = ([104, 50] : List UInt8) then (tree_Kind.j2 kj8 a0 (a0.toList == ([104, 50] : List UInt8))) else (if a0.toList = ([104, 51] : List UInt8) then (tree_Kind.j2 kj8 a0 (a0.toList == ([104, 51] : List UInt8))) else (if a0.toList = ([104, 52] : List UInt8) then (tree_Kind.j2 kj8 a0 (a0.toList == ([104, 52] : List UInt8))) else (if a0.toList = ([104, 53] : List UInt8) then (tree_Kind.j2 kj8 a0 (a0.toList == ([104, 53] : List UInt8))) else (tree_Kind.j2 kj8 a0 (a0.toList == ([104, 54] : List UInt8)))))))) = some r := by rw [if_neg (show ¬ (false = true) by decide)] at H; exact H
           clear H
           have H := H1
           clear H1
           have HC22 := Aside0.mk H
           clear H
           go_upto_if 28 with (fail)
           go_cut [28] (fun v28 wc => ∃ (kq : Nat) (x28_21 : Bool), v28 = .bool x28_21 ∧ Aside0 (tree_Kind.j2 kq a0 x28_21 = some r) ∧ Aside0 (kq ≤ kj8) ∧ Drawn0 w wc)
           case first =>
            have H := HC22.out
            clear HC22
            by_cases c23 : a0.toList = ([104, 49] : List UInt8)
            ·rw [if_pos c23] at H
             have c23b0 : (a0.toList == ([104, 49] : List UInt8)) = true := beq_iff_eq.mpr c23
             have c23b1 : (a0.toList != ([104, 49] : List UInt8)) = false := bne_eq_false_iff_eq.mpr c23
             clear c23
             (first | rw [c23b0] | (simp only [i64_w, i32_w]; rw [c23b0]) | skip)
             have H' := Aside0.mk H
             clear H
             go_wp2
             go_meet
             case rel => exact ⟨_, ((a0.toList == ([104, 49] : List UInt8))), (by first | rfl | (simp; done) | (simp [*]; done) | (simp [bne, List.isEmpty_iff]; done) | (simp [bne, List.isEmpty_iff, *]; done) | (simp [bne]; rfl)), H', ⟨by have := HJ4.out; have := HJ8.out; first | omega | exact Nat.le_refl _⟩, by repeat (first | exact Drawn0.refl _ | apply Drawn0.step)⟩
            ·rw [if_neg c23] at H
             have c23b0 : (a0.toList == ([104, 49] : List UInt8)) = false := beq_eq_false_iff_ne.mpr c23
             have c23b1 : (a0.toList != ([104, 49] : List UInt8)) = true := bne_iff_ne.mpr c23
             (first | rw [c23b0] | (simp only [i64_w, i32_w]; rw [c23b0]) | skip)
             by_cases c24 : a0.toList = ([104, 50] : List UInt8)
             ·rw [if_pos c24] at H
              have c24b0 : (a0.toList == ([104, 50] : List UInt8)) = true := beq_iff_eq.mpr c24
              have c24b1 : (a0.toList != ([104, 50] : List UInt8)) = false := bne_eq_false_iff_eq.mpr c24
              clear c24
              have H' := Aside0.mk H
              clear H
              go_wp2
              go_meet
              case rel => exact ⟨_, ((a0.toList == ([104, 50] : List UInt8))), (by first | rfl | (simp; done) | (simp [*]; done) | (simp [bne, List.isEmpty_iff]; done) | (simp [bne, List.isEmpty_iff, *]; done) | (simp [bne]; rfl)), H', ⟨by have := HJ4.out; have := HJ8.out; first | omega | exact Nat.le_refl _⟩, by repeat (first | exact Drawn0.refl _ | apply Drawn0.step)⟩
             ·rw [if_neg c24] at H
              have c24b0 : (a0.toList == ([104, 50] : List UInt8)) = false := beq_eq_false_iff_ne.mpr c24
              have c24b1 : (a0.toList != ([104, 50] : List UInt8)) = true := bne_iff_ne.mpr c24
              by_cases c25 : a0.toList = ([104, 51] : List UInt8)
              ·rw [if_pos c25] at H
               have c25b0 : (a0.toList == ([104, 51] : List UInt8)) = true := beq_iff_eq.mpr c25
               have c25b1 : (a0.toList != ([104, 51] : List UInt8)) = false := bne_eq_false_iff_eq.mpr c25
               clear c25
               have H' := Aside0.mk H
               clear H
               go_wp2
               go_meet
               case rel => exact ⟨_, ((a0.toList == ([104, 51] : List UInt8))), (by first | rfl | (simp; done) | (simp [*]; done) | (simp [bne, List.isEmpty_iff]; done) | (simp [bne, List.isEmpty_iff, *]; done) | (simp [bne]; rfl)), H', ⟨by have := HJ4.out; have := HJ8.out; first | omega | exact Nat.le_refl _⟩, by repeat (first | exact Drawn0.refl _ | apply Drawn0.step)⟩
              ·rw [if_neg c25] at H
               have c25b0 : (a0.toList == ([104, 51] : List UInt8)) = false := beq_eq_false_iff_ne.mpr c25
               have c25b1 : (a0.toList != ([104, 51] : List UInt8)) = true := bne_iff_ne.mpr c25
               by_cases c26 : a0.toList = ([104, 52] : List UInt8)
               ·rw [if_pos c26] at H
                have c26b0 : (a0.toList == ([104, 52] : List UInt8)) = true := beq_iff_eq.mpr c26
                have c26b1 : (a0.toList != ([104, 52] : List UInt8)) = false := bne_eq_false_iff_eq.mpr c26
                clear c26
                have H' := Aside0.mk H
                clear H
                go_wp2
                go_meet
                case rel => exact ⟨_, ((a0.toList == ([104, 52] : List UInt8))), (by first | rfl | (simp; done) | (simp [*]; done) | (simp [bne, List.isEmpty_iff]; done) | (simp [bne, List.isEmpty_iff, *]; done) | (simp [bne]; rfl)), H', ⟨by have := HJ4.out; have := HJ8.out; first | omega | exact Nat.le_refl _⟩, by repeat (first | exact Drawn0.refl _ | apply Drawn0.step)⟩
               ·rw [if_neg c26] at H
                have c26b0 : (a0.toList == ([104, 52] : List UInt8)) = false := beq_eq_false_iff_ne.mpr c26
                have c26b1 : (a0.toList != ([104, 52] : List UInt8)) = true := bne_iff_ne.mpr c26
                by_cases c27 : a0.toList = ([104, 53] : List UInt8)
                ·rw [if_pos c27] at H
                 have c27b0 : (a0.toList == ([104, 53] : List UInt8)) = true := beq_iff_eq.mpr c27
                 have c27b1 : (a0.toList != ([104, 53] : List UInt8)) = false := bne_eq_false_iff_eq.mpr c27
                 clear c27
                 have H' := Aside0.mk H
                 clear H
                 go_wp2
                 go_meet
                 case rel => exact ⟨_, ((a0.toList == ([104, 53] : List UInt8))), (by first | rfl | (simp; done) | (simp [*]; done) | (simp [bne, List.isEmpty_iff]; done) | (simp [bne, List.isEmpty_iff, *]; done) | (simp [bne]; rfl)), H', ⟨by have := HJ4.out; have := HJ8.out; first | omega | exact Nat.le_refl _⟩, by repeat (first | exact Drawn0.refl _ | apply Drawn0.step)⟩
                ·rw [if_neg c27] at H
                 have c27b0 : (a0.toList == ([104, 53] : List UInt8)) = false := beq_eq_false_iff_ne.mpr c27
                 have c27b1 : (a0.toList != ([104, 53] : List UInt8)) = true := bne_iff_ne.mpr c27
                 have H' := Aside0.mk H
                 clear H
                 go_wp2
                 go_meet
                 case rel => exact ⟨_, ((a0.toList == ([104, 54] : List UInt8))), (by first | rfl | (simp; done) | (simp [*]; done) | (simp [bne, List.isEmpty_iff]; done) | (simp [bne, List.isEmpty_iff, *]; done) | (simp [bne]; rfl)), H', ⟨by have := HJ4.out; have := HJ8.out; first | omega | exact Nat.le_refl _⟩, by repeat (first | exact Drawn0.refl _ | apply Drawn0.step)⟩
           case rest =>
            clear HC22
            try clear c1
            try clear c2
            try clear c2b0
            try clear c2b1
            try clear p2
            try clear c3
            try clear c3b0
            try clear c3b1
            try clear c4
            try clear c4b0
            try clear c4b1
            try clear c6
            try clear c6b0
            try clear c6b1
            try clear c7
            try clear c8
            try clear c8b0
            try clear c8b1
            try clear c10
            try clear c10b0
            try clear c10b1
            try clear c11
            try clear c11b0
            try clear c11b1
            try clear c12
            try clear c12b0
            try clear c12b1
            try clear c13
            try clear c13b0
            try clear c13b1
            try clear c14
            try clear c14b0
            try clear c14b1
            try clear c15
            try clear c15b0
            try clear c15b1
            try clear c16
            try clear c16b0
            try clear c16b1
            try clear c17
            try clear c17b0
            try clear c17b1
            try clear c18
            try clear c18b0
            try clear c18b1
            try clear c19
            try clear c19b0
            try clear c19b1
            try clear c20
            try clear c20b0
            try clear c20b1
            try clear c21
            try clear c23
            try clear c23b0
            try clear c23b1
            try clear c24
            try clear c24b0
            try clear c24b1
            try clear c25
            try clear c25b0
            try clear c25b1
            try clear c26
            try clear c26b0
            try clear c26b1
            try clear c27
            try clear c27b0
            try clear c27b1
            try clear p2
            obtain ⟨kq, x28_21, rfl, HA, HJ21, ⟨mc21, rfl⟩⟩ := hcut
            cases kq with
            | zero => exact absurd HA.out (by simp [tree_Kind.j2])
            | succ kj21 =>
             have H := HA.out
             clear HA
             simp only [tree_Kind.j2] at H
             by_cases c28 : x28_21 = true
             ·subst c28
              have H1 : (some 4) = some r := by rw [if_pos rfl] at H; exact H
              clear H
              have H := H1
              clear H1
              obtain rfl := Option.some.inj H
              go_wp2
              go_ret
              exact ⟨by first | rfl | (simp; done) | (simp [*]; done) | (simp [bne, List.isEmpty_iff]; done) | (simp [bne, List.isEmpty_iff, *]; done) | (simp [bne]; rfl), by repeat (first | exact Drawn0.refl _ | apply Drawn0.step)⟩
             ·replace c28 := Bool.eq_false_iff.mpr c28
              subst c28
              have H1 : (if a0.toList = ([115, 112, 97, 110] : List UInt8) then (some 5) else (if a0.toList = ([98] : List UInt8) then (some 5) else (if a0.toList = ([105] : List UInt8) then (some 5) else (if a0.toList = ([101, 109] : List UInt8) then (some 5) else (if a0.toList = ([115, 116, 114, 111, 110, 103] : List UInt8) then (some 5) else (if a0.toList = ([117] : List UInt8) then (some 5) else (if a0.toList = ([115] : List UInt8) then (some 5) else (if a0.toList = ([115, 109, 97, 108, 108] : List UInt8) then (some 5) else (if a0.toList = ([99, 111, 100, 101] : List UInt8) then (some 5) else (if a0.toList = ([98, 100, 105] : List UInt8) then (some 5) else (if a0.toList = ([98, 100, 111] : List UInt8) then (some 5) else (if a0.toList = ([97, 98, 98, 114] : List UInt8) then (some 5) else (if a0.toList = ([99, 105, 116, 101] : List UInt8) then (some 5) else (if a0.toList = ([113] : List UInt8) then (some 5) else (if a0.toList = ([115, 117, 98] : List UInt8) then (some 5) else (if a0.toList = ([115, 117, 112] : List UInt8) then (some 5) else (if a0.toList = ([109, 97, 114, 107] : List UInt8) then (some 5) else (some 0)))))))))))))))))) = some r := by rw [if_neg (show ¬ (false = true) by decide)] at H; exact H
              clear H
              have H := H1
              clear H1
              by_cases c29 : a0.toList = ([115, 112, 97, 110] : List UInt8)
              ·rw [if_pos c29] at H
               have c29b0 : (a0.toList == ([115, 112, 97, 110] : List UInt8)) = true := beq_iff_eq.mpr c29
               have c29b1 : (a0.toList != ([115, 112, 97, 110] : List UInt8)) = false := bne_eq_false_iff_eq.mpr c29
               clear c29
               obtain rfl := Option.some.inj H
               go_wp2
               go_ret
               exact ⟨by first | rfl | (simp; done) | (simp [*]; done) | (simp [bne, List.isEmpty_iff]; done) | (simp [bne, List.isEmpty_iff, *]; done) | (simp [bne]; rfl), by repeat (first | exact Drawn0.refl _ | apply Drawn0.step)⟩
              ·rw [if_neg c29] at H
               have c29b0 : (a0.toList == ([115, 112, 97, 110] : List UInt8)) = false := beq_eq_false_iff_ne.mpr c29
               have c29b1 : (a0.toList != ([115, 112, 97, 110] : List UInt8)) = true := bne_iff_ne.mpr c29
               by_cases c30 : a0.toList = ([98] : List UInt8)
               ·rw [if_pos c30] at H
                have c30b0 : (a0.toList == ([98] : List UInt8)) = true := beq_iff_eq.mpr c30
                have c30b1 : (a0.toList != ([98] : List UInt8)) = false := bne_eq_false_iff_eq.mpr c30
                clear c30
                obtain rfl := Option.some.inj H
                go_wp2
                go_ret
                exact ⟨by first | rfl | (simp; done) | (simp [*]; done) | (simp [bne, List.isEmpty_iff]; done) | (simp [bne, List.isEmpty_iff, *]; done) | (simp [bne]; rfl), by repeat (first | exact Drawn0.refl _ | apply Drawn0.step)⟩
               ·rw [if_neg c30] at H
                have c30b0 : (a0.toList == ([98] : List UInt8)) = false := beq_eq_false_iff_ne.mpr c30
                have c30b1 : (a0.toList != ([98] : List UInt8)) = true := bne_iff_ne.mpr c30
                by_cases c31 : a0.toList = ([105] : List UInt8)
                ·rw [if_pos c31] at H
                 have c31b0 : (a0.toList == ([105] : List UInt8)) = true := beq_iff_eq.mpr c31
                 have c31b1 : (a0.toList != ([105] : List UInt8)) = false := bne_eq_false_iff_eq.mpr c31
                 clear c31
                 obtain rfl := Option.some.inj H
                 go_wp2
                 go_ret
                 exact ⟨by first | rfl | (simp; done) | (simp [*]; done) | (simp [bne, List.isEmpty_iff]; done) | (simp [bne, List.isEmpty_iff, *]; done) | (simp [bne]; rfl), by repeat (first | exact Drawn0.refl _ | apply Drawn0.step)⟩
                ·rw [if_neg c31] at H
                 have c31b0 : (a0.toList == ([105] : List UInt8)) = false := beq_eq_false_iff_ne.mpr c31
                 have c31b1 : (a0.toList != ([105] : List UInt8)) = true := bne_iff_ne.mpr c31
                 by_cases c32 : a0.toList = ([101, 109] : List UInt8)
                 ·rw [if_pos c32] at H
                  have c32b0 : (a0.toList == ([101, 109] : List UInt8)) = true := beq_iff_eq.mpr c32
                  have c32b1 : (a0.toList != ([101, 109] : List UInt8)) = false := bne_eq_false_iff_eq.mpr c32
                  clear c32
                  obtain rfl := Option.some.inj H
                  go_wp2
                  go_ret
                  exact ⟨by first | rfl | (simp; done) | (simp [*]; done) | (simp [bne, List.isEmpty_iff]; done) | (simp [bne, List.isEmpty_iff, *]; done) | (simp [bne]; rfl), by repeat (first | exact Drawn0.refl _ | apply Drawn0.step)⟩
                 ·rw [if_neg c32] at H
                  have c32b0 : (a0.toList == ([101, 109] : List UInt8)) = false := beq_eq_false_iff_ne.mpr c32
                  have c32b1 : (a0.toList != ([101, 109] : List UInt8)) = true := bne_iff_ne.mpr c32
                  by_cases c33 : a0.toList = ([115, 116, 114, 111, 110, 103] : List UInt8)
                  ·rw [if_pos c33] at H
                   have c33b0 : (a0.toList == ([115, 116, 114, 111, 110, 103] : List UInt8)) = true := beq_iff_eq.mpr c33
                   have c33b1 : (a0.toList != ([115, 116, 114, 111, 110, 103] : List UInt8)) = false := bne_eq_false_iff_eq.mpr c33
                   clear c33
                   obtain rfl := Option.some.inj H
                   go_wp2
                   go_ret
                   exact ⟨by first | rfl | (simp; done) | (simp [*]; done) | (simp [bne, List.isEmpty_iff]; done) | (simp [bne, List.isEmpty_iff, *]; done) | (simp [bne]; rfl), by repeat (first | exact Drawn0.refl _ | apply Drawn0.step)⟩
                  ·rw [if_neg c33] at H
                   have c33b0 : (a0.toList == ([115, 116, 114, 111, 110, 103] : List UInt8)) = false := beq_eq_false_iff_ne.mpr c33
                   have c33b1 : (a0.toList != ([115, 116, 114, 111, 110, 103] : List UInt8)) = true := bne_iff_ne.mpr c33
                   by_cases c34 : a0.toList = ([117] : List UInt8)
                   ·rw [if_pos c34] at H
                    have c34b0 : (a0.toList == ([117] : List UInt8)) = true := beq_iff_eq.mpr c34
                    have c34b1 : (a0.toList != ([117] : List UInt8)) = false := bne_eq_false_iff_eq.mpr c34
                    clear c34
                    obtain rfl := Option.some.inj H
                    go_wp2
                    go_ret
                    exact ⟨by first | rfl | (simp; done) | (simp [*]; done) | (simp [bne, List.isEmpty_iff]; done) | (simp [bne, List.isEmpty_iff, *]; done) | (simp [bne]; rfl), by repeat (first | exact Drawn0.refl _ | apply Drawn0.step)⟩
                   ·rw [if_neg c34] at H
                    have c34b0 : (a0.toList == ([117] : List UInt8)) = false := beq_eq_false_iff_ne.mpr c34
                    have c34b1 : (a0.toList != ([117] : List UInt8)) = true := bne_iff_ne.mpr c34
                    by_cases c35 : a0.toList = ([115] : List UInt8)
                    ·rw [if_pos c35] at H
                     have c35b0 : (a0.toList == ([115] : List UInt8)) = true := beq_iff_eq.mpr c35
                     have c35b1 : (a0.toList != ([115] : List UInt8)) = false := bne_eq_false_iff_eq.mpr c35
                     clear c35
                     obtain rfl := Option.some.inj H
                     go_wp2
                     go_ret
                     exact ⟨by first | rfl | (simp; done) | (simp [*]; done) | (simp [bne, List.isEmpty_iff]; done) | (simp [bne, List.isEmpty_iff, *]; done) | (simp [bne]; rfl), by repeat (first | exact Drawn0.refl _ | apply Drawn0.step)⟩
                    ·rw [if_neg c35] at H
                     have c35b0 : (a0.toList == ([115] : List UInt8)) = false := beq_eq_false_iff_ne.mpr c35
                     have c35b1 : (a0.toList != ([115] : List UInt8)) = true := bne_iff_ne.mpr c35
                     by_cases c36 : a0.toList = ([115, 109, 97, 108, 108] : List UInt8)
                     ·rw [if_pos c36] at H
                      have c36b0 : (a0.toList == ([115, 109, 97, 108, 108] : List UInt8)) = true := beq_iff_eq.mpr c36
                      have c36b1 : (a0.toList != ([115, 109, 97, 108, 108] : List UInt8)) = false := bne_eq_false_iff_eq.mpr c36
                      clear c36
                      obtain rfl := Option.some.inj H
                      go_wp2
                      go_ret
                      exact ⟨by first | rfl | (simp; done) | (simp [*]; done) | (simp [bne, List.isEmpty_iff]; done) | (simp [bne, List.isEmpty_iff, *]; done) | (simp [bne]; rfl), by repeat (first | exact Drawn0.refl _ | apply Drawn0.step)⟩
                     ·rw [if_neg c36] at H
                      have c36b0 : (a0.toList == ([115, 109, 97, 108, 108] : List UInt8)) = false := beq_eq_false_iff_ne.mpr c36
                      have c36b1 : (a0.toList != ([115, 109, 97, 108, 108] : List UInt8)) = true := bne_iff_ne.mpr c36
                      by_cases c37 : a0.toList = ([99, 111, 100, 101] : List UInt8)
                      ·rw [if_pos c37] at H
                       have c37b0 : (a0.toList == ([99, 111, 100, 101] : List UInt8)) = true := beq_iff_eq.mpr c37
                       have c37b1 : (a0.toList != ([99, 111, 100, 101] : List UInt8)) = false := bne_eq_false_iff_eq.mpr c37
                       clear c37
                       obtain rfl := Option.some.inj H
                       go_wp2
                       go_ret
                       exact ⟨by first | rfl | (simp; done) | (simp [*]; done) | (simp [bne, List.isEmpty_iff]; done) | (simp [bne, List.isEmpty_iff, *]; done) | (simp [bne]; rfl), by repeat (first | exact Drawn0.refl _ | apply Drawn0.step)⟩
                      ·rw [if_neg c37] at H
                       have c37b0 : (a0.toList == ([99, 111, 100, 101] : List UInt8)) = false := beq_eq_false_iff_ne.mpr c37
                       have c37b1 : (a0.toList != ([99, 111, 100, 101] : List UInt8)) = true := bne_iff_ne.mpr c37
                       by_cases c38 : a0.toList = ([98, 100, 105] : List UInt8)
                       ·rw [if_pos c38] at H
                        have c38b0 : (a0.toList == ([98, 100, 105] : List UInt8)) = true := beq_iff_eq.mpr c38
                        have c38b1 : (a0.toList != ([98, 100, 105] : List UInt8)) = false := bne_eq_false_iff_eq.mpr c38
                        clear c38
                        obtain rfl := Option.some.inj H
                        go_wp2
                        go_ret
                        exact ⟨by first | rfl | (simp; done) | (simp [*]; done) | (simp [bne, List.isEmpty_iff]; done) | (simp [bne, List.isEmpty_iff, *]; done) | (simp [bne]; rfl), by repeat (first | exact Drawn0.refl _ | apply Drawn0.step)⟩
                       ·rw [if_neg c38] at H
                        have c38b0 : (a0.toList == ([98, 100, 105] : List UInt8)) = false := beq_eq_false_iff_ne.mpr c38
                        have c38b1 : (a0.toList != ([98, 100, 105] : List UInt8)) = true := bne_iff_ne.mpr c38
                        by_cases c39 : a0.toList = ([98, 100, 111] : List UInt8)
                        ·rw [if_pos c39] at H
                         have c39b0 : (a0.toList == ([98, 100, 111] : List UInt8)) = true := beq_iff_eq.mpr c39
                         have c39b1 : (a0.toList != ([98, 100, 111] : List UInt8)) = false := bne_eq_false_iff_eq.mpr c39
                         clear c39
                         obtain rfl := Option.some.inj H
                         go_wp2
                         go_ret
                         exact ⟨by first | rfl | (simp; done) | (simp [*]; done) | (simp [bne, List.isEmpty_iff]; done) | (simp [bne, List.isEmpty_iff, *]; done) | (simp [bne]; rfl), by repeat (first | exact Drawn0.refl _ | apply Drawn0.step)⟩
                        ·rw [if_neg c39] at H
                         have c39b0 : (a0.toList == ([98, 100, 111] : List UInt8)) = false := beq_eq_false_iff_ne.mpr c39
                         have c39b1 : (a0.toList != ([98, 100, 111] : List UInt8)) = true := bne_iff_ne.mpr c39
                         by_cases c40 : a0.toList = ([97, 98, 98, 114] : List UInt8)
                         ·rw [if_pos c40] at H
                          have c40b0 : (a0.toList == ([97, 98, 98, 114] : List UInt8)) = true := beq_iff_eq.mpr c40
                          have c40b1 : (a0.toList != ([97, 98, 98, 114] : List UInt8)) = false := bne_eq_false_iff_eq.mpr c40
                          clear c40
                          obtain rfl := Option.some.inj H
                          go_wp2
                          go_ret
                          exact ⟨by first | rfl | (simp; done) | (simp [*]; done) | (simp [bne, List.isEmpty_iff]; done) | (simp [bne, List.isEmpty_iff, *]; done) | (simp [bne]; rfl), by repeat (first | exact Drawn0.refl _ | apply Drawn0.step)⟩
                         ·rw [if_neg c40] at H
                          have c40b0 : (a0.toList == ([97, 98, 98, 114] : List UInt8)) = false := beq_eq_false_iff_ne.mpr c40
                          have c40b1 : (a0.toList != ([97, 98, 98, 114] : List UInt8)) = true := bne_iff_ne.mpr c40
                          by_cases c41 : a0.toList = ([99, 105, 116, 101] : List UInt8)
                          ·rw [if_pos c41] at H
                           have c41b0 : (a0.toList == ([99, 105, 116, 101] : List UInt8)) = true := beq_iff_eq.mpr c41
                           have c41b1 : (a0.toList != ([99, 105, 116, 101] : List UInt8)) = false := bne_eq_false_iff_eq.mpr c41
                           clear c41
                           obtain rfl := Option.some.inj H
                           go_wp2
                           go_ret
                           exact ⟨by first | rfl | (simp; done) | (simp [*]; done) | (simp [bne, List.isEmpty_iff]; done) | (simp [bne, List.isEmpty_iff, *]; done) | (simp [bne]; rfl), by repeat (first | exact Drawn0.refl _ | apply Drawn0.step)⟩
                          ·rw [if_neg c41] at H
                           have c41b0 : (a0.toList == ([99, 105, 116, 101] : List UInt8)) = false := beq_eq_false_iff_ne.mpr c41
                           have c41b1 : (a0.toList != ([99, 105, 116, 101] : List UInt8)) = true := bne_iff_ne.mpr c41
                           by_cases c42 : a0.toList = ([113] : List UInt8)
                           ·rw [if_pos c42] at H
                            have c42b0 : (a0.toList == ([113] : List UInt8)) = true := beq_iff_eq.mpr c42
                            have c42b1 : (a0.toList != ([113] : List UInt8)) = false := bne_eq_false_iff_eq.mpr c42
                            clear c42
                            obtain rfl := Option.some.inj H
                            go_wp2
                            go_ret
                            exact ⟨by first | rfl | (simp; done) | (simp [*]; done) | (simp [bne, List.isEmpty_iff]; done) | (simp [bne, List.isEmpty_iff, *]; done) | (simp [bne]; rfl), by repeat (first | exact Drawn0.refl _ | apply Drawn0.step)⟩
                           ·rw [if_neg c42] at H
                            have c42b0 : (a0.toList == ([113] : List UInt8)) = false := beq_eq_false_iff_ne.mpr c42
                            have c42b1 : (a0.toList != ([113] : List UInt8)) = true := bne_iff_ne.mpr c42
                            by_cases c43 : a0.toList = ([115, 117, 98] : List UInt8)
                            ·rw [if_pos c43] at H
                             have c43b0 : (a0.toList == ([115, 117, 98] : List UInt8)) = true := beq_iff_eq.mpr c43
                             have c43b1 : (a0.toList != ([115, 117, 98] : List UInt8)) = false := bne_eq_false_iff_eq.mpr c43
                             clear c43
                             obtain rfl := Option.some.inj H
                             go_wp2
                             go_ret
                             exact ⟨by first | rfl | (simp; done) | (simp [*]; done) | (simp [bne, List.isEmpty_iff]; done) | (simp [bne, List.isEmpty_iff, *]; done) | (simp [bne]; rfl), by repeat (first | exact Drawn0.refl _ | apply Drawn0.step)⟩
                            ·rw [if_neg c43] at H
                             have c43b0 : (a0.toList == ([115, 117, 98] : List UInt8)) = false := beq_eq_false_iff_ne.mpr c43
                             have c43b1 : (a0.toList != ([115, 117, 98] : List UInt8)) = true := bne_iff_ne.mpr c43
                             by_cases c44 : a0.toList = ([115, 117, 112] : List UInt8)
                             ·rw [if_pos c44] at H
                              have c44b0 : (a0.toList == ([115, 117, 112] : List UInt8)) = true := beq_iff_eq.mpr c44
                              have c44b1 : (a0.toList != ([115, 117, 112] : List UInt8)) = false := bne_eq_false_iff_eq.mpr c44
                              clear c44
                              obtain rfl := Option.some.inj H
                              go_wp2
                              go_ret
                              exact ⟨by first | rfl | (simp; done) | (simp [*]; done) | (simp [bne, List.isEmpty_iff]; done) | (simp [bne, List.isEmpty_iff, *]; done) | (simp [bne]; rfl), by repeat (first | exact Drawn0.refl _ | apply Drawn0.step)⟩
                             ·rw [if_neg c44] at H
                              have c44b0 : (a0.toList == ([115, 117, 112] : List UInt8)) = false := beq_eq_false_iff_ne.mpr c44
                              have c44b1 : (a0.toList != ([115, 117, 112] : List UInt8)) = true := bne_iff_ne.mpr c44
                              by_cases c45 : a0.toList = ([109, 97, 114, 107] : List UInt8)
                              ·rw [if_pos c45] at H
                               have c45b0 : (a0.toList == ([109, 97, 114, 107] : List UInt8)) = true := beq_iff_eq.mpr c45
                               have c45b1 : (a0.toList != ([109, 97, 114, 107] : List UInt8)) = false := bne_eq_false_iff_eq.mpr c45
                               clear c45
                               obtain rfl := Option.some.inj H
                               go_wp2
                               go_ret
                               exact ⟨by first | rfl | (simp; done) | (simp [*]; done) | (simp [bne, List.isEmpty_iff]; done) | (simp [bne, List.isEmpty_iff, *]; done) | (simp [bne]; rfl), by repeat (first | exact Drawn0.refl _ | apply Drawn0.step)⟩
                              ·rw [if_neg c45] at H
                               have c45b0 : (a0.toList == ([109, 97, 114, 107] : List UInt8)) = false := beq_eq_false_iff_ne.mpr c45
                               have c45b1 : (a0.toList != ([109, 97, 114, 107] : List UInt8)) = true := bne_iff_ne.mpr c45
                               obtain rfl := Option.some.inj H
                               go_wp2
                               go_ret
                               exact ⟨by first | rfl | (simp; done) | (simp [*]; done) | (simp [bne, List.isEmpty_iff]; done) | (simp [bne, List.isEmpty_iff, *]; done) | (simp [bne]; rfl), by repeat (first | exact Drawn0.refl _ | apply Drawn0.step)⟩

/-! ### tree_well: function 82 -/
def tree_well.f (a0 : ByteArray) : Option (Bool) := (x_ValidString.f a0).bind fun t101 => (if t101 = true then ((x_IndexByte.f a0 0).bind fun t102 => (some (decide (t102 < 0)))) else (some false))
set_option maxHeartbeats 80000000 in
set_option maxRecDepth 100000 in
theorem tree_well.calls (a0 : ByteArray) (r : Bool) (w : World) (h : tree_well.f a0 = some r) (hG1 : G1 w) :
  Calls Tryd.prog 82 #[.string a0] w fun e w' => e = .returned (.bool r) ∧ Below w.heap.size w w' := by
 have HB := Aside0.mk (Below.refl w.heap.size w)
 have H : ((x_ValidString.f a0).bind fun t101 => (if t101 = true then ((x_IndexByte.f a0 0).bind fun t102 => (some (decide (t102 < 0)))) else (some false))) = some r := h
 clear h
 replace H := Option.bind_eq_some_iff.mp H
 obtain ⟨t101, A20, H⟩ := H
 replace H : (if t101 = true then ((x_IndexByte.f a0 0).bind fun t102 => (some (decide (t102 < 0)))) else (some false)) = some r := H
 have A2 := Aside0.mk A20
 clear A20
 by_cases c3 : t101 = true
 ·subst c3
  have H1 : ((x_IndexByte.f a0 0).bind fun t102 => (some (decide (t102 < 0)))) = some r := by rw [if_pos rfl] at H; exact H
  clear H
  have H := H1
  clear H1
  replace H := Option.bind_eq_some_iff.mp H
  obtain ⟨t102, A40, H⟩ := H
  replace H : (some (decide (t102 < 0))) = some r := H
  have A4 := Aside0.mk A40
  clear A40
  obtain rfl := Option.some.inj H
  go_enter Tryd.func82, Tryd.ntmps82
  go_wp2_with (first | ((with_reducible refine gate_callee (f := 98) rfl ?_); refine goesL_ (some 4) rfl rfl Tryd.func98 (by kernel_rfl) rfl #[.string a0] rfl (by (try simp only [List.map_toArray, List.map_cons, List.map_nil]); first | done | rfl | (simp only [List.length_drop, List.length_take]; rfl)) ?_; (with_reducible refine (x_ValidString.calls a0 true _ A2.out (by first | exact hG1 | exact G1.below hG1 (by assumption) | exact G1.below hG1 HB.out | (apply G1.below hG1; repeat (first | (with_reducible first | exact HB.out | apply below_alloc | apply pw_below_drewN | apply below_drew1 | exact Below.refl _ _) | exact HB.out | exact Below.refl _ _)) | (have hd_ := ‹Aside0 (Drawn0 _ _)›.out.below; exact G1.below hG1 hd_))).mono ?_); rintro e w5 ⟨rfl, hb⟩; refine ⟨_, rfl, ?_⟩; have n0_ := Aside0.mk (below_step (by repeat (first | (with_reducible first | exact HB.out | apply below_alloc | apply pw_below_drewN | apply below_drew1) | exact HB.out)) hb); clear HB; have HB := n0_; clear n0_; (try clear hb); (try clear hb2); (try clear hk); (try clear hi)) | (go_at_call 27; (with_reducible refine (x_IndexByte.calls a0 0 t102 _ A4.out).mono ?_); rintro e w' ⟨rfl, ⟨nd, rfl⟩⟩))
  go_ret
  exact ⟨by first | rfl | (simp [errW_none, errW_some] <;> rfl) | (simp [*, errW_none, errW_some] <;> rfl), by repeat (first | (with_reducible first | exact HB.out | apply below_alloc | apply pw_below_drewN | apply below_drew1) | exact HB.out)⟩
 ·replace c3 := Bool.eq_false_iff.mpr c3
  subst c3
  have H1 : (some false) = some r := by rw [if_neg (show ¬ (false = true) by decide)] at H; exact H
  clear H
  have H := H1
  clear H1
  obtain rfl := Option.some.inj H
  go_enter Tryd.func82, Tryd.ntmps82
  go_wp2_with (first | ((with_reducible refine gate_callee (f := 98) rfl ?_); refine goesL_ (some 4) rfl rfl Tryd.func98 (by kernel_rfl) rfl #[.string a0] rfl (by (try simp only [List.map_toArray, List.map_cons, List.map_nil]); first | done | rfl | (simp only [List.length_drop, List.length_take]; rfl)) ?_; (with_reducible refine (x_ValidString.calls a0 false _ A2.out (by first | exact hG1 | exact G1.below hG1 (by assumption) | exact G1.below hG1 HB.out | (apply G1.below hG1; repeat (first | (with_reducible first | exact HB.out | apply below_alloc | apply pw_below_drewN | apply below_drew1 | exact Below.refl _ _) | exact HB.out | exact Below.refl _ _)) | (have hd_ := ‹Aside0 (Drawn0 _ _)›.out.below; exact G1.below hG1 hd_))).mono ?_); rintro e w6 ⟨rfl, hb⟩; refine ⟨_, rfl, ?_⟩; have n0_ := Aside0.mk (below_step (by repeat (first | (with_reducible first | exact HB.out | apply below_alloc | apply pw_below_drewN | apply below_drew1) | exact HB.out)) hb); clear HB; have HB := n0_; clear n0_; (try clear hb); (try clear hb2); (try clear hk); (try clear hi)))
  go_ret
  exact ⟨by first | rfl | (simp [errW_none, errW_some] <;> rfl) | (simp [*, errW_none, errW_some] <;> rfl), by repeat (first | (with_reducible first | exact HB.out | apply below_alloc | apply pw_below_drewN | apply below_drew1) | exact HB.out)⟩

end Go.Proofs.YtpfhgolamlnhiaaDoor.XA

namespace Go.Proofs.YtpfhgolamlnhiaaDoor.XA
open Go.RowKit Go.Proofs.YtpfhgolamlnhiaaDoor Go.Proofs.YtpfhgolamlnhiaaDoor.XT Go.Proofs.YtpfhgolamlnhiaaDoorW.PrintWords Go.Proofs.YtpfhgolamlnhiaaDoorW.PrintLast Go.Proofs.YtpfhgolamlnhiaaDoorW.PrintMore
attribute [local go_sem] max2_int min2_int max_two min_two max_three min_three max_four min_four   -- for this text's walks alone
set_option linter.unusedVariables false
set_option linter.unusedSimpArgs false

/-! ### tree_named: function 99 -/
def tree_named.l0 : Nat → ByteArray → Int → Int → Option (Bool)
 | 0, _, _, _ => none
 | k + 1, x0, x6, x7 => if x7 < x6 then (if 0 ≤ x7 then (if x7 < (x0.size : Int) then (if (bt x0 x7) < 97 then (if (bt x0 x7) < 48 then (if (bt x0 x7) = 45 then (tree_named.l0 k x0 x6 (wrap64 (x7 + 1))) else (if (bt x0 x7) = 95 then (tree_named.l0 k x0 x6 (wrap64 (x7 + 1))) else (some false))) else (if (bt x0 x7) > 57 then (if (bt x0 x7) = 45 then (tree_named.l0 k x0 x6 (wrap64 (x7 + 1))) else (if (bt x0 x7) = 95 then (tree_named.l0 k x0 x6 (wrap64 (x7 + 1))) else (some false))) else (tree_named.l0 k x0 x6 (wrap64 (x7 + 1))))) else (if (bt x0 x7) > 122 then (if (bt x0 x7) < 48 then (if (bt x0 x7) = 45 then (tree_named.l0 k x0 x6 (wrap64 (x7 + 1))) else (if (bt x0 x7) = 95 then (tree_named.l0 k x0 x6 (wrap64 (x7 + 1))) else (some false))) else (if (bt x0 x7) > 57 then (if (bt x0 x7) = 45 then (tree_named.l0 k x0 x6 (wrap64 (x7 + 1))) else (if (bt x0 x7) = 95 then (tree_named.l0 k x0 x6 (wrap64 (x7 + 1))) else (some false))) else (tree_named.l0 k x0 x6 (wrap64 (x7 + 1))))) else (tree_named.l0 k x0 x6 (wrap64 (x7 + 1))))) else (none)) else (none)) else (some (x0.toList != ([] : List UInt8)))
def tree_named.f (k : Nat) (a0 : ByteArray) : Option (Bool) := tree_named.l0 k a0 (a0.size : Int) 0
theorem tree_named.mono_l : ∀ k, (∀ y0 y1 y2, LeO (tree_named.l0 k y0 y1 y2) (tree_named.l0 (k + 1) y0 y1 y2))
 | 0 => fun _ _ _ r h => by simp [tree_named.l0] at h
 | k + 1 => by
  have ih0 := tree_named.mono_l k
  ·intro y0 y1 y2
   unfold tree_named.l0
   repeat' first
   | (with_reducible exact ih0 _ _ _)
   | (with_reducible exact LeO.refl _)
   | (with_reducible exact LeO.none _)
   | (with_reducible refine LeO.ite ?_ ?_)
   | (with_reducible refine LeO.bind ?_ (fun _ => ?_))
   | exact ih0 _ _ _
   | exact LeO.none _
   | refine LeO.ite ?_ ?_
   | refine LeO.bind ?_ (fun _ => ?_)
theorem tree_named.mono : ∀ a0 k, LeO (tree_named.f k a0) (tree_named.f (k + 1) a0) := by
 intro a0 k
 have ih0 := tree_named.mono_l k
 unfold tree_named.f
 repeat' first
   | (with_reducible exact ih0 _ _ _)
   | (with_reducible exact LeO.refl _)
   | (with_reducible exact LeO.none _)
   | (with_reducible refine LeO.ite ?_ ?_)
   | (with_reducible refine LeO.bind ?_ (fun _ => ?_))
   | exact ih0 _ _ _
   | exact LeO.none _
   | refine LeO.ite ?_ ?_
   | refine LeO.bind ?_ (fun _ => ?_)
set_option maxHeartbeats 80000000 in
set_option maxRecDepth 100000 in
theorem tree_named.calls (k : Nat) (a0 : ByteArray) (r : Bool) (w : World) (h : tree_named.f k a0 = some r) :
  Calls Tryd.prog 99 #[.string a0] w fun e w' => e = .returned (.bool r) ∧ Drawn0 w w' := by
 have H : (tree_named.l0 k a0 (a0.size : Int) 0) = some r := h
 clear h
 have H' := Aside0.mk H
 clear H
 go_enter Tryd.func99, Tryd.ntmps99
 go_wp2
 go_loopg [7] k (fun kq v7 w' => ∃ (x7_1 : Int), v7 = .int .i64 x7_1 ∧ Aside0 (tree_named.l0 kq a0 (a0.size : Int) x7_1 = some r) ∧ Aside0 (kq ≤ k) ∧ Drawn0 w w')
 case atStart => exact ⟨(0), (by first | rfl | (simp; done) | (simp [*]; done) | (simp [bne, List.isEmpty_iff]; done) | (simp [bne, List.isEmpty_iff, *]; done) | (simp [bne]; rfl)), H', ⟨Nat.le_refl _⟩, by repeat (first | exact Drawn0.refl _ | apply Drawn0.step)⟩
 case round =>
  clear H'
  obtain ⟨x7_1, rfl, HA, HK1, ⟨m1, rfl⟩⟩ := hrel
  cases gk with
  | zero => exact absurd HA.out (by simp [tree_named.l0])
  | succ k1 =>
   have H := HA.out
   clear HA
   simp only [tree_named.l0] at H
   by_cases c2 : x7_1 < (a0.size : Int)
   ·rw [if_pos c2] at H
    have c2b0 : decide (x7_1 < (a0.size : Int)) = true := decide_eq_true c2
    clear c2
    by_cases c3 : 0 ≤ x7_1
    ·rw [if_pos c3] at H
     have c3b0 : decide (0 ≤ x7_1) = true := decide_eq_true c3
     clear c3
     by_cases c4 : x7_1 < (a0.size : Int)
     ·rw [if_pos c4] at H
      have c4b0 : decide (x7_1 < (a0.size : Int)) = true := decide_eq_true c4
      clear c4
      by_cases c6 : (bt a0 x7_1) < 97
      ·rw [if_pos c6] at H
       have c6b0 : decide ((bt a0 x7_1) < 97) = true := decide_eq_true c6
       clear c6
       by_cases c7 : (bt a0 x7_1) < 48
       ·rw [if_pos c7] at H
        have c7b0 : decide ((bt a0 x7_1) < 48) = true := decide_eq_true c7
        clear c7
        by_cases c8 : (bt a0 x7_1) = 45
        ·rw [if_pos c8] at H
         have c8b0 : ((bt a0 x7_1) == 45) = true := beq_iff_eq.mpr c8
         have c8b1 : ((bt a0 x7_1) != 45) = false := bne_eq_false_iff_eq.mpr c8
         clear c8
         have H' := Aside0.mk H
         clear H
         have p5 : 0 ≤ (x7_1 : Int) := of_decide_eq_true (by first | (with_reducible assumption) | assumption)
         have q5 : x7_1 < (a0.size : Int) := of_decide_eq_true (by first | (with_reducible assumption) | assumption)
         have hx5 := bt_at a0 x7_1
         replace p5 := eq_true p5
         replace q5 := eq_true q5
         go_wp2
         go_roundg k1
         case measure => have := HK1.out; omega
         case rel => exact ⟨(wrap64 (x7_1 + 1)), (by first | rfl | (simp; done) | (simp [*]; done) | (simp [bne, List.isEmpty_iff]; done) | (simp [bne, List.isEmpty_iff, *]; done) | (simp [bne]; rfl)), H', ⟨by have := HK1.out; omega⟩, by repeat (first | exact Drawn0.refl _ | apply Drawn0.step)⟩
        ·rw [if_neg c8] at H
         have c8b0 : ((bt a0 x7_1) == 45) = false := beq_eq_false_iff_ne.mpr c8
         have c8b1 : ((bt a0 x7_1) != 45) = true := bne_iff_ne.mpr c8
         by_cases c9 : (bt a0 x7_1) = 95
         ·rw [if_pos c9] at H
          have c9b0 : ((bt a0 x7_1) == 95) = true := beq_iff_eq.mpr c9
          have c9b1 : ((bt a0 x7_1) != 95) = false := bne_eq_false_iff_eq.mpr c9
          clear c9
          have H' := Aside0.mk H
          clear H
          have p5 : 0 ≤ (x7_1 : Int) := of_decide_eq_true (by first | (with_reducible assumption) | assumption)
          have q5 : x7_1 < (a0.size : Int) := of_decide_eq_true (by first | (with_reducible assumption) | assumption)
          have hx5 := bt_at a0 x7_1
          replace p5 := eq_true p5
          replace q5 := eq_true q5
          go_wp2
          go_roundg k1
          case measure => have := HK1.out; omega
          case rel => exact ⟨(wrap64 (x7_1 + 1)), (by first | rfl | (simp; done) | (simp [*]; done) | (simp [bne, List.isEmpty_iff]; done) | (simp [bne, List.isEmpty_iff, *]; done) | (simp [bne]; rfl)), H', ⟨by have := HK1.out; omega⟩, by repeat (first | exact Drawn0.refl _ | apply Drawn0.step)⟩
         ·rw [if_neg c9] at H
          have c9b0 : ((bt a0 x7_1) == 95) = false := beq_eq_false_iff_ne.mpr c9
          have c9b1 : ((bt a0 x7_1) != 95) = true := bne_iff_ne.mpr c9
          obtain rfl := Option.some.inj H
          have p5 : 0 ≤ (x7_1 : Int) := of_decide_eq_true (by first | (with_reducible assumption) | assumption)
          have q5 : x7_1 < (a0.size : Int) := of_decide_eq_true (by first | (with_reducible assumption) | assumption)
          have hx5 := bt_at a0 x7_1
          replace p5 := eq_true p5
          replace q5 := eq_true q5
          go_wp2
          go_ret
          exact ⟨by first | rfl | (simp; done) | (simp [*]; done) | (simp [bne, List.isEmpty_iff]; done) | (simp [bne, List.isEmpty_iff, *]; done) | (simp [bne]; rfl), by repeat (first | exact Drawn0.refl _ | apply Drawn0.step)⟩
       ·rw [if_neg c7] at H
        have c7b0 : decide ((bt a0 x7_1) < 48) = false := decide_eq_false c7
        clear c7
        by_cases c10 : (bt a0 x7_1) > 57
        ·rw [if_pos c10] at H
         have c10b0 : decide (57 < (bt a0 x7_1)) = true := decide_eq_true c10
         clear c10
         by_cases c11 : (bt a0 x7_1) = 45
         ·rw [if_pos c11] at H
          have c11b0 : ((bt a0 x7_1) == 45) = true := beq_iff_eq.mpr c11
          have c11b1 : ((bt a0 x7_1) != 45) = false := bne_eq_false_iff_eq.mpr c11
          clear c11
          have H' := Aside0.mk H
          clear H
          have p5 : 0 ≤ (x7_1 : Int) := of_decide_eq_true (by first | (with_reducible assumption) | assumption)
          have q5 : x7_1 < (a0.size : Int) := of_decide_eq_true (by first | (with_reducible assumption) | assumption)
          have hx5 := bt_at a0 x7_1
          replace p5 := eq_true p5
          replace q5 := eq_true q5
          go_wp2
          go_roundg k1
          case measure => have := HK1.out; omega
          case rel => exact ⟨(wrap64 (x7_1 + 1)), (by first | rfl | (simp; done) | (simp [*]; done) | (simp [bne, List.isEmpty_iff]; done) | (simp [bne, List.isEmpty_iff, *]; done) | (simp [bne]; rfl)), H', ⟨by have := HK1.out; omega⟩, by repeat (first | exact Drawn0.refl _ | apply Drawn0.step)⟩
         ·rw [if_neg c11] at H
          have c11b0 : ((bt a0 x7_1) == 45) = false := beq_eq_false_iff_ne.mpr c11
          have c11b1 : ((bt a0 x7_1) != 45) = true := bne_iff_ne.mpr c11
          by_cases c12 : (bt a0 x7_1) = 95
          ·rw [if_pos c12] at H
           have c12b0 : ((bt a0 x7_1) == 95) = true := beq_iff_eq.mpr c12
           have c12b1 : ((bt a0 x7_1) != 95) = false := bne_eq_false_iff_eq.mpr c12
           clear c12
           have H' := Aside0.mk H
           clear H
           have p5 : 0 ≤ (x7_1 : Int) := of_decide_eq_true (by first | (with_reducible assumption) | assumption)
           have q5 : x7_1 < (a0.size : Int) := of_decide_eq_true (by first | (with_reducible assumption) | assumption)
           have hx5 := bt_at a0 x7_1
           replace p5 := eq_true p5
           replace q5 := eq_true q5
           go_wp2
           go_roundg k1
           case measure => have := HK1.out; omega
           case rel => exact ⟨(wrap64 (x7_1 + 1)), (by first | rfl | (simp; done) | (simp [*]; done) | (simp [bne, List.isEmpty_iff]; done) | (simp [bne, List.isEmpty_iff, *]; done) | (simp [bne]; rfl)), H', ⟨by have := HK1.out; omega⟩, by repeat (first | exact Drawn0.refl _ | apply Drawn0.step)⟩
          ·rw [if_neg c12] at H
           have c12b0 : ((bt a0 x7_1) == 95) = false := beq_eq_false_iff_ne.mpr c12
           have c12b1 : ((bt a0 x7_1) != 95) = true := bne_iff_ne.mpr c12
           obtain rfl := Option.some.inj H
           have p5 : 0 ≤ (x7_1 : Int) := of_decide_eq_true (by first | (with_reducible assumption) | assumption)
           have q5 : x7_1 < (a0.size : Int) := of_decide_eq_true (by first | (with_reducible assumption) | assumption)
           have hx5 := bt_at a0 x7_1
           replace p5 := eq_true p5
           replace q5 := eq_true q5
           go_wp2
           go_ret
           exact ⟨by first | rfl | (simp; done) | (simp [*]; done) | (simp [bne, List.isEmpty_iff]; done) | (simp [bne, List.isEmpty_iff, *]; done) | (simp [bne]; rfl), by repeat (first | exact Drawn0.refl _ | apply Drawn0.step)⟩
        ·rw [if_neg c10] at H
         have c10b0 : decide (57 < (bt a0 x7_1)) = false := decide_eq_false c10
         clear c10
         have H' := Aside0.mk H
         clear H
         have p5 : 0 ≤ (x7_1 : Int) := of_decide_eq_true (by first | (with_reducible assumption) | assumption)
         have q5 : x7_1 < (a0.size : Int) := of_decide_eq_true (by first | (with_reducible assumption) | assumption)
         have hx5 := bt_at a0 x7_1
         replace p5 := eq_true p5
         replace q5 := eq_true q5
         go_wp2
         go_roundg k1
         case measure => have := HK1.out; omega
         case rel => exact ⟨(wrap64 (x7_1 + 1)), (by first | rfl | (simp; done) | (simp [*]; done) | (simp [bne, List.isEmpty_iff]; done) | (simp [bne, List.isEmpty_iff, *]; done) | (simp [bne]; rfl)), H', ⟨by have := HK1.out; omega⟩, by repeat (first | exact Drawn0.refl _ | apply Drawn0.step)⟩
      ·rw [if_neg c6] at H
       have c6b0 : decide ((bt a0 x7_1) < 97) = false := decide_eq_false c6
       clear c6
       by_cases c13 : (bt a0 x7_1) > 122
       ·rw [if_pos c13] at H
        have c13b0 : decide (122 < (bt a0 x7_1)) = true := decide_eq_true c13
        clear c13
        by_cases c14 : (bt a0 x7_1) < 48
        ·rw [if_pos c14] at H
         have c14b0 : decide ((bt a0 x7_1) < 48) = true := decide_eq_true c14
         clear c14
         by_cases c15 : (bt a0 x7_1) = 45
         ·rw [if_pos c15] at H
          have c15b0 : ((bt a0 x7_1) == 45) = true := beq_iff_eq.mpr c15
          have c15b1 : ((bt a0 x7_1) != 45) = false := bne_eq_false_iff_eq.mpr c15
          clear c15
          have H' := Aside0.mk H
          clear H
          have p5 : 0 ≤ (x7_1 : Int) := of_decide_eq_true (by first | (with_reducible assumption) | assumption)
          have q5 : x7_1 < (a0.size : Int) := of_decide_eq_true (by first | (with_reducible assumption) | assumption)
          have hx5 := bt_at a0 x7_1
          replace p5 := eq_true p5
          replace q5 := eq_true q5
          go_wp2
          go_roundg k1
          case measure => have := HK1.out; omega
          case rel => exact ⟨(wrap64 (x7_1 + 1)), (by first | rfl | (simp; done) | (simp [*]; done) | (simp [bne, List.isEmpty_iff]; done) | (simp [bne, List.isEmpty_iff, *]; done) | (simp [bne]; rfl)), H', ⟨by have := HK1.out; omega⟩, by repeat (first | exact Drawn0.refl _ | apply Drawn0.step)⟩
         ·rw [if_neg c15] at H
          have c15b0 : ((bt a0 x7_1) == 45) = false := beq_eq_false_iff_ne.mpr c15
          have c15b1 : ((bt a0 x7_1) != 45) = true := bne_iff_ne.mpr c15
          by_cases c16 : (bt a0 x7_1) = 95
          ·rw [if_pos c16] at H
           have c16b0 : ((bt a0 x7_1) == 95) = true := beq_iff_eq.mpr c16
           have c16b1 : ((bt a0 x7_1) != 95) = false := bne_eq_false_iff_eq.mpr c16
           clear c16
           have H' := Aside0.mk H
           clear H
           have p5 : 0 ≤ (x7_1 : Int) := of_decide_eq_true (by first | (with_reducible assumption) | assumption)
           have q5 : x7_1 < (a0.size : Int) := of_decide_eq_true (by first | (with_reducible assumption) | assumption)
           have hx5 := bt_at a0 x7_1
           replace p5 := eq_true p5
           replace q5 := eq_true q5
           go_wp2
           go_roundg k1
           case measure => have := HK1.out; omega
           case rel => exact ⟨(wrap64 (x7_1 + 1)), (by first | rfl | (simp; done) | (simp [*]; done) | (simp [bne, List.isEmpty_iff]; done) | (simp [bne, List.isEmpty_iff, *]; done) | (simp [bne]; rfl)), H', ⟨by have := HK1.out; omega⟩, by repeat (first | exact Drawn0.refl _ | apply Drawn0.step)⟩
          ·rw [if_neg c16] at H
           have c16b0 : ((bt a0 x7_1) == 95) = false := beq_eq_false_iff_ne.mpr c16
           have c16b1 : ((bt a0 x7_1) != 95) = true := bne_iff_ne.mpr c16
           obtain rfl := Option.some.inj H
           have p5 : 0 ≤ (x7_1 : Int) := of_decide_eq_true (by first | (with_reducible assumption) | assumption)
           have q5 : x7_1 < (a0.size : Int) := of_decide_eq_true (by first | (with_reducible assumption) | assumption)
           have hx5 := bt_at a0 x7_1
           replace p5 := eq_true p5
           replace q5 := eq_true q5
           go_wp2
           go_ret
           exact ⟨by first | rfl | (simp; done) | (simp [*]; done) | (simp [bne, List.isEmpty_iff]; done) | (simp [bne, List.isEmpty_iff, *]; done) | (simp [bne]; rfl), by repeat (first | exact Drawn0.refl _ | apply Drawn0.step)⟩
        ·rw [if_neg c14] at H
         have c14b0 : decide ((bt a0 x7_1) < 48) = false := decide_eq_false c14
         clear c14
         by_cases c17 : (bt a0 x7_1) > 57
         ·rw [if_pos c17] at H
          have c17b0 : decide (57 < (bt a0 x7_1)) = true := decide_eq_true c17
          clear c17
          by_cases c18 : (bt a0 x7_1) = 45
          ·rw [if_pos c18] at H
           have c18b0 : ((bt a0 x7_1) == 45) = true := beq_iff_eq.mpr c18
           have c18b1 : ((bt a0 x7_1) != 45) = false := bne_eq_false_iff_eq.mpr c18
           clear c18
           have H' := Aside0.mk H
           clear H
           have p5 : 0 ≤ (x7_1 : Int) := of_decide_eq_true (by first | (with_reducible assumption) | assumption)
           have q5 : x7_1 < (a0.size : Int) := of_decide_eq_true (by first | (with_reducible assumption) | assumption)
           have hx5 := bt_at a0 x7_1
           replace p5 := eq_true p5
           replace q5 := eq_true q5
           go_wp2
           go_roundg k1
           case measure => have := HK1.out; omega
           case rel => exact ⟨(wrap64 (x7_1 + 1)), (by first | rfl | (simp; done) | (simp [*]; done) | (simp [bne, List.isEmpty_iff]; done) | (simp [bne, List.isEmpty_iff, *]; done) | (simp [bne]; rfl)), H', ⟨by have := HK1.out; omega⟩, by repeat (first | exact Drawn0.refl _ | apply Drawn0.step)⟩
          ·rw [if_neg c18] at H
           have c18b0 : ((bt a0 x7_1) == 45) = false := beq_eq_false_iff_ne.mpr c18
           have c18b1 : ((bt a0 x7_1) != 45) = true := bne_iff_ne.mpr c18
           by_cases c19 : (bt a0 x7_1) = 95
           ·rw [if_pos c19] at H
            have c19b0 : ((bt a0 x7_1) == 95) = true := beq_iff_eq.mpr c19
            have c19b1 : ((bt a0 x7_1) != 95) = false := bne_eq_false_iff_eq.mpr c19
            clear c19
            have H' := Aside0.mk H
            clear H
            have p5 : 0 ≤ (x7_1 : Int) := of_decide_eq_true (by first | (with_reducible assumption) | assumption)
            have q5 : x7_1 < (a0.size : Int) := of_decide_eq_true (by first | (with_reducible assumption) | assumption)
            have hx5 := bt_at a0 x7_1
            replace p5 := eq_true p5
            replace q5 := eq_true q5
            go_wp2
            go_roundg k1
            case measure => have := HK1.out; omega
            case rel => exact ⟨(wrap64 (x7_1 + 1)), (by first | rfl | (simp; done) | (simp [*]; done) | (simp [bne, List.isEmpty_iff]; done) | (simp [bne, List.isEmpty_iff, *]; done) | (simp [bne]; rfl)), H', ⟨by have := HK1.out; omega⟩, by repeat (first | exact Drawn0.refl _ | apply Drawn0.step)⟩
           ·rw [if_neg c19] at H
            have c19b0 : ((bt a0 x7_1) == 95) = false := beq_eq_false_iff_ne.mpr c19
            have c19b1 : ((bt a0 x7_1) != 95) = true := bne_iff_ne.mpr c19
            obtain rfl := Option.some.inj H
            have p5 : 0 ≤ (x7_1 : Int) := of_decide_eq_true (by first | (with_reducible assumption) | assumption)
            have q5 : x7_1 < (a0.size : Int) := of_decide_eq_true (by first | (with_reducible assumption) | assumption)
            have hx5 := bt_at a0 x7_1
            replace p5 := eq_true p5
            replace q5 := eq_true q5
            go_wp2
            go_ret
            exact ⟨by first | rfl | (simp; done) | (simp [*]; done) | (simp [bne, List.isEmpty_iff]; done) | (simp [bne, List.isEmpty_iff, *]; done) | (simp [bne]; rfl), by repeat (first | exact Drawn0.refl _ | apply Drawn0.step)⟩
         ·rw [if_neg c17] at H
          have c17b0 : decide (57 < (bt a0 x7_1)) = false := decide_eq_false c17
          clear c17
          have H' := Aside0.mk H
          clear H
          have p5 : 0 ≤ (x7_1 : Int) := of_decide_eq_true (by first | (with_reducible assumption) | assumption)
          have q5 : x7_1 < (a0.size : Int) := of_decide_eq_true (by first | (with_reducible assumption) | assumption)
          have hx5 := bt_at a0 x7_1
          replace p5 := eq_true p5
          replace q5 := eq_true q5
          go_wp2
          go_roundg k1
          case measure => have := HK1.out; omega
          case rel => exact ⟨(wrap64 (x7_1 + 1)), (by first | rfl | (simp; done) | (simp [*]; done) | (simp [bne, List.isEmpty_iff]; done) | (simp [bne, List.isEmpty_iff, *]; done) | (simp [bne]; rfl)), H', ⟨by have := HK1.out; omega⟩, by repeat (first | exact Drawn0.refl _ | apply Drawn0.step)⟩
       ·rw [if_neg c13] at H
        have c13b0 : decide (122 < (bt a0 x7_1)) = false := decide_eq_false c13
        clear c13
        have H' := Aside0.mk H
        clear H
        have p5 : 0 ≤ (x7_1 : Int) := of_decide_eq_true (by first | (with_reducible assumption) | assumption)
        have q5 : x7_1 < (a0.size : Int) := of_decide_eq_true (by first | (with_reducible assumption) | assumption)
        have hx5 := bt_at a0 x7_1
        replace p5 := eq_true p5
        replace q5 := eq_true q5
        go_wp2
        go_roundg k1
        case measure => have := HK1.out; omega
        case rel => exact ⟨(wrap64 (x7_1 + 1)), (by first | rfl | (simp; done) | (simp [*]; done) | (simp [bne, List.isEmpty_iff]; done) | (simp [bne, List.isEmpty_iff, *]; done) | (simp [bne]; rfl)), H', ⟨by have := HK1.out; omega⟩, by repeat (first | exact Drawn0.refl _ | apply Drawn0.step)⟩
     ·rw [if_neg c4] at H
      exact absurd H (by simp)
    ·rw [if_neg c3] at H
     exact absurd H (by simp)
   ·rw [if_neg c2] at H
    have c2b0 : decide (x7_1 < (a0.size : Int)) = false := decide_eq_false c2
    clear c2
    obtain rfl := Option.some.inj H
    go_wp2
    go_ret
    exact ⟨by first | rfl | (simp; done) | (simp [*]; done) | (simp [bne, List.isEmpty_iff]; done) | (simp [bne, List.isEmpty_iff, *]; done) | (simp [bne]; rfl), by repeat (first | exact Drawn0.refl _ | apply Drawn0.step)⟩

/-! ### tree_ends: function 75 -/
def tree_ends.f (a0 : Int) : Option (Bool) := if a0 ≥ 1 then (if a0 ≤ 4 then (some true) else (some (a0 == 8))) else (some (a0 == 8))
set_option maxHeartbeats 80000000 in
set_option maxRecDepth 100000 in
theorem tree_ends.calls (a0 : Int) (r : Bool) (w : World) (h : tree_ends.f a0 = some r) :
  Calls Tryd.prog 75 #[.int .u8 a0] w fun e w' => e = .returned (.bool r) ∧ Drawn0 w w' := by
 have H : (if a0 ≥ 1 then (if a0 ≤ 4 then (some true) else (some (a0 == 8))) else (some (a0 == 8))) = some r := h
 clear h
 by_cases c2 : a0 ≥ 1
 ·rw [if_pos c2] at H
  have c2b0 : decide (1 ≤ a0) = true := decide_eq_true c2
  clear c2
  by_cases c3 : a0 ≤ 4
  ·rw [if_pos c3] at H
   have c3b0 : decide (a0 ≤ 4) = true := decide_eq_true c3
   clear c3
   obtain rfl := Option.some.inj H
   go_enter Tryd.func75, Tryd.ntmps75
   go_wp2
   go_ret
   exact ⟨by first | rfl | (simp; done) | (simp [*]; done) | (simp [bne, List.isEmpty_iff]; done) | (simp [bne, List.isEmpty_iff, *]; done) | (simp [bne]; rfl), by repeat (first | exact Drawn0.refl _ | apply Drawn0.step)⟩
  ·rw [if_neg c3] at H
   have c3b0 : decide (a0 ≤ 4) = false := decide_eq_false c3
   clear c3
   obtain rfl := Option.some.inj H
   go_enter Tryd.func75, Tryd.ntmps75
   go_wp2
   go_ret
   exact ⟨by first | rfl | (simp; done) | (simp [*]; done) | (simp [bne, List.isEmpty_iff]; done) | (simp [bne, List.isEmpty_iff, *]; done) | (simp [bne]; rfl), by repeat (first | exact Drawn0.refl _ | apply Drawn0.step)⟩
 ·rw [if_neg c2] at H
  have c2b0 : decide (1 ≤ a0) = false := decide_eq_false c2
  clear c2
  obtain rfl := Option.some.inj H
  go_enter Tryd.func75, Tryd.ntmps75
  go_wp2
  go_ret
  exact ⟨by first | rfl | (simp; done) | (simp [*]; done) | (simp [bne, List.isEmpty_iff]; done) | (simp [bne, List.isEmpty_iff, *]; done) | (simp [bne]; rfl), by repeat (first | exact Drawn0.refl _ | apply Drawn0.step)⟩

/-! ### tree_wall: function 95 -/
def tree_wall.f (k : Nat) (a0 : ByteArray) : Option (Bool) := (tree_Kind.f k a0).bind fun t103 => (if t103 = 4 then (some true) else (if t103 = 1 then (some (a0.toList != ([100, 105, 118] : List UInt8))) else (some false)))
theorem tree_wall.mono : ∀ a0 k, LeO (tree_wall.f k a0) (tree_wall.f (k + 1) a0) := by
 intro a0 k
 unfold tree_wall.f
 repeat' first
   | (with_reducible exact tree_Kind.mono _ _)
   | (with_reducible exact LeO.refl _)
   | (with_reducible exact LeO.none _)
   | (with_reducible refine LeO.ite ?_ ?_)
   | (with_reducible refine LeO.bind ?_ (fun _ => ?_))
   | exact tree_Kind.mono _ _
   | exact LeO.none _
   | refine LeO.ite ?_ ?_
   | refine LeO.bind ?_ (fun _ => ?_)
set_option maxHeartbeats 80000000 in
set_option maxRecDepth 100000 in
theorem tree_wall.calls (k : Nat) (a0 : ByteArray) (r : Bool) (w : World) (h : tree_wall.f k a0 = some r) :
  Calls Tryd.prog 95 #[.string a0] w fun e w' => e = .returned (.bool r) ∧ Drawn0 w w' := by
 have H : ((tree_Kind.f k a0).bind fun t103 => (if t103 = 4 then (some true) else (if t103 = 1 then (some (a0.toList != ([100, 105, 118] : List UInt8))) else (some false)))) = some r := h
 clear h
 replace H := Option.bind_eq_some_iff.mp H
 obtain ⟨t103, A20, H⟩ := H
 replace H : (if t103 = 4 then (some true) else (if t103 = 1 then (some (a0.toList != ([100, 105, 118] : List UInt8))) else (some false))) = some r := H
 have A2 := Aside0.mk A20
 clear A20
 by_cases c3 : t103 = 4
 ·rw [if_pos c3] at H
  have c3b0 : (t103 == 4) = true := beq_iff_eq.mpr c3
  have c3b1 : (t103 != 4) = false := bne_eq_false_iff_eq.mpr c3
  clear c3
  obtain rfl := Option.some.inj H
  go_enter Tryd.func95, Tryd.ntmps95
  go_wp2_with (first | ((with_reducible refine gate_callee (f := 16) rfl ?_); refine goesL_ (some 5) rfl rfl Tryd.func16 (by kernel_rfl) rfl #[.string a0] rfl (by (try simp only [List.map_toArray, List.map_cons, List.map_nil]); first | done | rfl | (simp only [List.length_drop, List.length_take]; rfl)) ?_; (with_reducible refine (tree_Kind.calls k a0 t103 _ A2.out).mono ?_); rintro e w' ⟨rfl, ⟨nd, rfl⟩⟩; refine ⟨_, rfl, ?_⟩))
  go_ret
  exact ⟨by first | rfl | (simp; done) | (simp [*]; done) | (simp [bne, List.isEmpty_iff]; done) | (simp [bne, List.isEmpty_iff, *]; done) | (simp [bne]; rfl), by repeat (first | exact Drawn0.refl _ | apply Drawn0.step)⟩
 ·rw [if_neg c3] at H
  have c3b0 : (t103 == 4) = false := beq_eq_false_iff_ne.mpr c3
  have c3b1 : (t103 != 4) = true := bne_iff_ne.mpr c3
  by_cases c4 : t103 = 1
  ·rw [if_pos c4] at H
   have c4b0 : (t103 == 1) = true := beq_iff_eq.mpr c4
   have c4b1 : (t103 != 1) = false := bne_eq_false_iff_eq.mpr c4
   clear c4
   obtain rfl := Option.some.inj H
   go_enter Tryd.func95, Tryd.ntmps95
   go_wp2_with (first | ((with_reducible refine gate_callee (f := 16) rfl ?_); refine goesL_ (some 5) rfl rfl Tryd.func16 (by kernel_rfl) rfl #[.string a0] rfl (by (try simp only [List.map_toArray, List.map_cons, List.map_nil]); first | done | rfl | (simp only [List.length_drop, List.length_take]; rfl)) ?_; (with_reducible refine (tree_Kind.calls k a0 t103 _ A2.out).mono ?_); rintro e w' ⟨rfl, ⟨nd, rfl⟩⟩; refine ⟨_, rfl, ?_⟩))
   go_ret
   exact ⟨by first | rfl | (simp; done) | (simp [*]; done) | (simp [bne, List.isEmpty_iff]; done) | (simp [bne, List.isEmpty_iff, *]; done) | (simp [bne]; rfl), by repeat (first | exact Drawn0.refl _ | apply Drawn0.step)⟩
  ·rw [if_neg c4] at H
   have c4b0 : (t103 == 1) = false := beq_eq_false_iff_ne.mpr c4
   have c4b1 : (t103 != 1) = true := bne_iff_ne.mpr c4
   obtain rfl := Option.some.inj H
   go_enter Tryd.func95, Tryd.ntmps95
   go_wp2_with (first | ((with_reducible refine gate_callee (f := 16) rfl ?_); refine goesL_ (some 5) rfl rfl Tryd.func16 (by kernel_rfl) rfl #[.string a0] rfl (by (try simp only [List.map_toArray, List.map_cons, List.map_nil]); first | done | rfl | (simp only [List.length_drop, List.length_take]; rfl)) ?_; (with_reducible refine (tree_Kind.calls k a0 t103 _ A2.out).mono ?_); rintro e w' ⟨rfl, ⟨nd, rfl⟩⟩; refine ⟨_, rfl, ?_⟩))
   go_ret
   exact ⟨by first | rfl | (simp; done) | (simp [*]; done) | (simp [bne, List.isEmpty_iff]; done) | (simp [bne, List.isEmpty_iff, *]; done) | (simp [bne]; rfl), by repeat (first | exact Drawn0.refl _ | apply Drawn0.step)⟩

end Go.Proofs.YtpfhgolamlnhiaaDoor.XA

namespace Go.Proofs.YtpfhgolamlnhiaaDoor.XA
open Go.RowKit Go.Proofs.YtpfhgolamlnhiaaDoor Go.Proofs.YtpfhgolamlnhiaaDoor.XT Go.Proofs.YtpfhgolamlnhiaaDoorW.PrintWords Go.Proofs.YtpfhgolamlnhiaaDoorW.PrintLast Go.Proofs.YtpfhgolamlnhiaaDoorW.PrintMore
attribute [local go_sem] max2_int min2_int max_two min_two max_three min_three max_four min_four   -- for this text's walks alone
set_option linter.unusedVariables false
set_option linter.unusedSimpArgs false

/-! ### tree_nested: function 84 -/
mutual
def tree_nested.j0 : Nat → List (S37) → List Int → Int → Bool → Option (Bool)
 | 0, _, _, _, _ => none
 | k + 1, x0, x1, x7, x28 => if x28 = true then (some false) else (tree_nested.l0 k x0 x1 x7 false (wrap64 ((x1.length : Int) - 1)))
def tree_nested.l0 : Nat → List (S37) → List Int → Int → Bool → Int → Option (Bool)
 | 0, _, _, _, _, _ => none
 | k + 1, x0, x1, x7, x8, x9 => if x9 > 0 then (if 0 ≤ x9 then (if x9 < (x1.length : Int) then (if 0 ≤ (rd x1 x9) then (if (rd x1 x9) < (x0.length : Int) then ((tree_ends.f x7).bind fun t110 => (if t110 = true then (if ((rd_T37 x0 (rd x1 x9)).f1).toList = ([112] : List UInt8) then (some false) else (if x7 = 6 then (if ((rd_T37 x0 (rd x1 x9)).f1).toList = ([97] : List UInt8) then (some false) else (if x7 = 3 then (if ((rd_T37 x0 (rd x1 x9)).f1).toList = ([108, 105] : List UInt8) then (if x8 = true then (tree_nested.l0 k x0 x1 x7 true (wrap64 (x9 - 1))) else (some false)) else (if x8 = true then (tree_nested.l0 k x0 x1 x7 true (wrap64 (x9 - 1))) else ((tree_wall.f k ((rd_T37 x0 (rd x1 x9)).f1)).bind fun t111 => (tree_nested.l0 k x0 x1 x7 t111 (wrap64 (x9 - 1)))))) else (if x8 = true then (tree_nested.l0 k x0 x1 x7 true (wrap64 (x9 - 1))) else ((tree_wall.f k ((rd_T37 x0 (rd x1 x9)).f1)).bind fun t112 => (tree_nested.l0 k x0 x1 x7 t112 (wrap64 (x9 - 1))))))) else (if x7 = 3 then (if ((rd_T37 x0 (rd x1 x9)).f1).toList = ([108, 105] : List UInt8) then (if x8 = true then (tree_nested.l0 k x0 x1 x7 true (wrap64 (x9 - 1))) else (some false)) else (if x8 = true then (tree_nested.l0 k x0 x1 x7 true (wrap64 (x9 - 1))) else ((tree_wall.f k ((rd_T37 x0 (rd x1 x9)).f1)).bind fun t113 => (tree_nested.l0 k x0 x1 x7 t113 (wrap64 (x9 - 1)))))) else (if x8 = true then (tree_nested.l0 k x0 x1 x7 true (wrap64 (x9 - 1))) else ((tree_wall.f k ((rd_T37 x0 (rd x1 x9)).f1)).bind fun t114 => (tree_nested.l0 k x0 x1 x7 t114 (wrap64 (x9 - 1)))))))) else (if x7 = 6 then (if ((rd_T37 x0 (rd x1 x9)).f1).toList = ([97] : List UInt8) then (some false) else (if x7 = 3 then (if ((rd_T37 x0 (rd x1 x9)).f1).toList = ([108, 105] : List UInt8) then (if x8 = true then (tree_nested.l0 k x0 x1 x7 true (wrap64 (x9 - 1))) else (some false)) else (if x8 = true then (tree_nested.l0 k x0 x1 x7 true (wrap64 (x9 - 1))) else ((tree_wall.f k ((rd_T37 x0 (rd x1 x9)).f1)).bind fun t115 => (tree_nested.l0 k x0 x1 x7 t115 (wrap64 (x9 - 1)))))) else (if x8 = true then (tree_nested.l0 k x0 x1 x7 true (wrap64 (x9 - 1))) else ((tree_wall.f k ((rd_T37 x0 (rd x1 x9)).f1)).bind fun t116 => (tree_nested.l0 k x0 x1 x7 t116 (wrap64 (x9 - 1))))))) else (if x7 = 3 then (if ((rd_T37 x0 (rd x1 x9)).f1).toList = ([108, 105] : List UInt8) then (if x8 = true then (tree_nested.l0 k x0 x1 x7 true (wrap64 (x9 - 1))) else (some false)) else (if x8 = true then (tree_nested.l0 k x0 x1 x7 true (wrap64 (x9 - 1))) else ((tree_wall.f k ((rd_T37 x0 (rd x1 x9)).f1)).bind fun t117 => (tree_nested.l0 k x0 x1 x7 t117 (wrap64 (x9 - 1)))))) else (if x8 = true then (tree_nested.l0 k x0 x1 x7 true (wrap64 (x9 - 1))) else ((tree_wall.f k ((rd_T37 x0 (rd x1 x9)).f1)).bind fun t118 => (tree_nested.l0 k x0 x1 x7 t118 (wrap64 (x9 - 1))))))))) else (none)) else (none)) else (none)) else (none)) else (some true)
end
def tree_nested.f (k : Nat) (l0 : List (S37)) (l1 : List Int) (a2 : ByteArray) : Option (Bool) := (tree_Kind.f k a2).bind fun t104 => (if t104 = 4 then (if 0 ≤ (wrap64 ((l1.length : Int) - 1)) then (if (wrap64 ((l1.length : Int) - 1)) < (l1.length : Int) then (if 0 ≤ (rd l1 (wrap64 ((l1.length : Int) - 1))) then (if (rd l1 (wrap64 ((l1.length : Int) - 1))) < (l0.length : Int) then ((tree_Kind.f k ((rd_T37 l0 (rd l1 (wrap64 ((l1.length : Int) - 1)))).f1)).bind fun t107 => (tree_nested.j0 k l0 l1 t104 (t107 == 4))) else (none)) else (none)) else (none)) else (none)) else (tree_nested.j0 k l0 l1 t104 false))
theorem tree_nested.mono_l : ∀ k, (∀ y0 y1 y2 y3, LeO (tree_nested.j0 k y0 y1 y2 y3) (tree_nested.j0 (k + 1) y0 y1 y2 y3)) ∧ (∀ y0 y1 y2 y3 y4, LeO (tree_nested.l0 k y0 y1 y2 y3 y4) (tree_nested.l0 (k + 1) y0 y1 y2 y3 y4))
 | 0 => ⟨fun _ _ _ _ r h => by simp [tree_nested.j0] at h, fun _ _ _ _ _ r h => by simp [tree_nested.l0] at h⟩
 | k + 1 => by
  obtain ⟨ih0, ih1⟩ := tree_nested.mono_l k
  refine ⟨?_, ?_⟩
  ·intro y0 y1 y2 y3
   unfold tree_nested.j0
   repeat' first
   | (with_reducible exact ih0 _ _ _ _)
   | (with_reducible exact ih1 _ _ _ _ _)
   | (with_reducible exact tree_Kind.mono _ _)
   | (with_reducible exact tree_wall.mono _ _)
   | (with_reducible exact LeO.refl _)
   | (with_reducible exact LeO.none _)
   | (with_reducible refine LeO.ite ?_ ?_)
   | (with_reducible refine LeO.bind ?_ (fun _ => ?_))
   | exact ih0 _ _ _ _
   | exact ih1 _ _ _ _ _
   | exact tree_Kind.mono _ _
   | exact tree_wall.mono _ _
   | exact LeO.none _
   | refine LeO.ite ?_ ?_
   | refine LeO.bind ?_ (fun _ => ?_)
  ·intro y0 y1 y2 y3 y4
   unfold tree_nested.l0
   repeat' first
   | (with_reducible exact ih0 _ _ _ _)
   | (with_reducible exact ih1 _ _ _ _ _)
   | (with_reducible exact tree_Kind.mono _ _)
   | (with_reducible exact tree_wall.mono _ _)
   | (with_reducible exact LeO.refl _)
   | (with_reducible exact LeO.none _)
   | (with_reducible refine LeO.ite ?_ ?_)
   | (with_reducible refine LeO.bind ?_ (fun _ => ?_))
   | exact ih0 _ _ _ _
   | exact ih1 _ _ _ _ _
   | exact tree_Kind.mono _ _
   | exact tree_wall.mono _ _
   | exact LeO.none _
   | refine LeO.ite ?_ ?_
   | refine LeO.bind ?_ (fun _ => ?_)
theorem tree_nested.mono : ∀ a0 a1 a2 k, LeO (tree_nested.f k a0 a1 a2) (tree_nested.f (k + 1) a0 a1 a2) := by
 intro a0 a1 a2 k
 obtain ⟨ih0, ih1⟩ := tree_nested.mono_l k
 unfold tree_nested.f
 repeat' first
   | (with_reducible exact ih0 _ _ _ _)
   | (with_reducible exact ih1 _ _ _ _ _)
   | (with_reducible exact tree_Kind.mono _ _)
   | (with_reducible exact tree_wall.mono _ _)
   | (with_reducible exact LeO.refl _)
   | (with_reducible exact LeO.none _)
   | (with_reducible refine LeO.ite ?_ ?_)
   | (with_reducible refine LeO.bind ?_ (fun _ => ?_))
   | exact ih0 _ _ _ _
   | exact ih1 _ _ _ _ _
   | exact tree_Kind.mono _ _
   | exact tree_wall.mono _ _
   | exact LeO.none _
   | refine LeO.ite ?_ ?_
   | refine LeO.bind ?_ (fun _ => ?_)
set_option maxHeartbeats 80000000 in
set_option maxRecDepth 100000 in
theorem tree_nested.calls (k : Nat) (A0 : Option Addr) (c0 : Nat) (l0 : List (S37)) (A1 : Option Addr) (c1 : Nat) (l1 : List Int) (a2 : ByteArray) (r : Bool) (w : World) (hr0 : Kd.C k37 w A0 l0.length l0) (hc0 : l0.length ≤ c0) (hr1 : Kd.C (Kd.int .i64) w A1 l1.length l1) (hc1 : l1.length ≤ c1) (h : tree_nested.f k l0 l1 a2 = some r) :
  Calls Tryd.prog 84 #[.slice A0 l0.length c0, .slice A1 l1.length c1, .string a2] w fun e w' => e = .returned (.bool r) ∧ Drawn0 w w' := by
 have HR0 := Aside0.mk hr0
 have HC0 := Aside0.mk hc0
 clear hr0 hc0
 have HR1 := Aside0.mk hr1
 have HC1 := Aside0.mk hc1
 clear hr1 hc1
 have H : ((tree_Kind.f k a2).bind fun t104 => (if t104 = 4 then (if 0 ≤ (wrap64 ((l1.length : Int) - 1)) then (if (wrap64 ((l1.length : Int) - 1)) < (l1.length : Int) then (if 0 ≤ (rd l1 (wrap64 ((l1.length : Int) - 1))) then (if (rd l1 (wrap64 ((l1.length : Int) - 1))) < (l0.length : Int) then ((tree_Kind.f k ((rd_T37 l0 (rd l1 (wrap64 ((l1.length : Int) - 1)))).f1)).bind fun t107 => (tree_nested.j0 k l0 l1 t104 (t107 == 4))) else (none)) else (none)) else (none)) else (none)) else (tree_nested.j0 k l0 l1 t104 false))) = some r := h
 clear h
 replace H := Option.bind_eq_some_iff.mp H
 obtain ⟨t104, A40, H⟩ := H
 replace H : (if t104 = 4 then (if 0 ≤ (wrap64 ((l1.length : Int) - 1)) then (if (wrap64 ((l1.length : Int) - 1)) < (l1.length : Int) then (if 0 ≤ (rd l1 (wrap64 ((l1.length : Int) - 1))) then (if (rd l1 (wrap64 ((l1.length : Int) - 1))) < (l0.length : Int) then ((tree_Kind.f k ((rd_T37 l0 (rd l1 (wrap64 ((l1.length : Int) - 1)))).f1)).bind fun t107 => (tree_nested.j0 k l0 l1 t104 (t107 == 4))) else (none)) else (none)) else (none)) else (none)) else (tree_nested.j0 k l0 l1 t104 false)) = some r := H
 have A4 := Aside0.mk A40
 clear A40
 have HC5 := Aside0.mk H
 clear H
 go_enter Tryd.func84, Tryd.ntmps84
 go_upto_region 2 with (first | ((with_reducible refine gate_callee (f := 16) rfl ?_); refine goesL_ (some 12) rfl rfl Tryd.func16 (by kernel_rfl) rfl #[.string a2] rfl (by (try simp only [List.map_toArray, List.map_cons, List.map_nil]); first | done | rfl | (simp only [List.length_drop, List.length_take]; rfl)) ?_; (with_reducible refine (tree_Kind.calls k a2 t104 _ A4.out).mono ?_); rintro e w' ⟨rfl, ⟨nd, rfl⟩⟩; refine ⟨_, rfl, ?_⟩))
 (try simp only [Act.put, List.setIfInBounds_toArray, List.set_cons_zero, List.set_cons_succ])
 go_cut [28] (fun v28 wc => ∃ (kq : Nat) (x28_4 : Bool), v28 = .bool x28_4 ∧ Aside0 (tree_nested.j0 kq l0 l1 t104 x28_4 = some r) ∧ Aside0 (kq ≤ k) ∧ Drawn0 w wc)
 case first =>
  have H := HC5.out
  clear HC5
  by_cases c6 : t104 = 4
  ·rw [if_pos c6] at H
   have c6b0 : (t104 == 4) = true := beq_iff_eq.mpr c6
   have c6b1 : (t104 != 4) = false := bne_eq_false_iff_eq.mpr c6
   clear c6
   (first | rw [c6b0] | (simp only [i64_w, i32_w]; rw [c6b0]) | skip)
   obtain ⟨ji7, hji7⟩ : ∃ j_ : Int, (wrap64 ((l1.length : Int) - 1)) = j_ := ⟨_, rfl⟩
   replace H : (if 0 ≤ (ji7) then (if (ji7) < (l1.length : Int) then (if 0 ≤ (rd l1 (ji7)) then (if (rd l1 (ji7)) < (l0.length : Int) then ((tree_Kind.f k ((rd_T37 l0 (rd l1 (ji7))).f1)).bind fun t107 => (tree_nested.j0 k l0 l1 t104 (t107 == 4))) else (none)) else (none)) else (none)) else (none)) = some r := by first | (rw [hji7] at H; exact H) | (simp only [hji7] at H ⊢; exact H)
   have hji7w : (IntKind.i64.wrap ((l1.length : Int) - 1)) = ji7 := (i64_w _).trans hji7
   by_cases c8 : 0 ≤ (ji7)
   ·rw [if_pos c8] at H
    have c8b0 : decide (0 ≤ (ji7)) = true := decide_eq_true c8
    clear c8
    by_cases c9 : (ji7) < (l1.length : Int)
    ·rw [if_pos c9] at H
     have c9b0 : decide ((ji7) < (l1.length : Int)) = true := decide_eq_true c9
     clear c9
     by_cases c10 : 0 ≤ (rd l1 (ji7))
     ·rw [if_pos c10] at H
      have c10b0 : decide (0 ≤ (rd l1 (ji7))) = true := decide_eq_true c10
      clear c10
      by_cases c11 : (rd l1 (ji7)) < (l0.length : Int)
      ·rw [if_pos c11] at H
       have c11b0 : decide ((rd l1 (ji7)) < (l0.length : Int)) = true := decide_eq_true c11
       clear c11
       replace H := Option.bind_eq_some_iff.mp H
       obtain ⟨t107, A120, H⟩ := H
       replace H : (tree_nested.j0 k l0 l1 t104 (t107 == 4)) = some r := H
       have A12 := Aside0.mk A120
       clear A120
       have H' := Aside0.mk H
       clear H
       have p105 : 0 ≤ ((ji7) : Int) := of_decide_eq_true (by first | (with_reducible assumption) | assumption)
       have q105 : (ji7) < (l1.length : Int) := of_decide_eq_true (by first | (with_reducible assumption) | assumption)
       obtain ⟨ad105, e105, hx105_0⟩ := Kd.at_int HR1.out (ji7) p105 q105
       cases e105
       replace p105 := eq_true p105
       replace q105 := eq_true q105
       have p106 : 0 ≤ ((rd l1 (ji7)) : Int) := of_decide_eq_true (by first | (with_reducible assumption) | assumption)
       have q106 : (rd l1 (ji7)) < (l0.length : Int) := of_decide_eq_true (by first | (with_reducible assumption) | assumption)
       obtain ⟨ad106, A106_2, c106_2, A106_5, c106_5, e106, hx106_0, hx106_1, hx106_2, hx106_3, hx106_4, hx106_5, hl106_2, hi106_2, hl106_5, hi106_5⟩ := at_T37 HR0.out (rd l1 (ji7)) p106 q106
       cases e106
       have HR106_2 := Aside0.mk hi106_2
       have HC106_2 := Aside0.mk hl106_2
       clear hi106_2 hl106_2
       have HR106_5 := Aside0.mk hi106_5
       have HC106_5 := Aside0.mk hl106_5
       clear hi106_5 hl106_5
       replace p106 := eq_true p106
       replace q106 := eq_true q106
       go_wp2_with (first | (go_at_call 16; (with_reducible refine (tree_Kind.calls k ((rd_T37 l0 (rd l1 (ji7))).f1) t107 _ A12.out).mono ?_); rintro e w' ⟨rfl, ⟨nd, rfl⟩⟩))
       go_meet
       case rel => exact ⟨_, ((t107 == 4)), (by first | rfl | (simp; done) | (simp [*]; done) | (simp [bne, List.isEmpty_iff]; done) | (simp [bne, List.isEmpty_iff, *]; done) | (simp [bne]; rfl)), H', ⟨by first | omega | exact Nat.le_refl _⟩, by repeat (first | exact Drawn0.refl _ | apply Drawn0.step)⟩
      ·rw [if_neg c11] at H
       exact absurd H (by simp)
     ·rw [if_neg c10] at H
      exact absurd H (by simp)
    ·rw [if_neg c9] at H
     exact absurd H (by simp)
   ·rw [if_neg c8] at H
    exact absurd H (by simp)
  ·rw [if_neg c6] at H
   have c6b0 : (t104 == 4) = false := beq_eq_false_iff_ne.mpr c6
   have c6b1 : (t104 != 4) = true := bne_iff_ne.mpr c6
   (first | rw [c6b0] | (simp only [i64_w, i32_w]; rw [c6b0]) | skip)
   have H' := Aside0.mk H
   clear H
   go_wp2
   go_meet
   case rel => exact ⟨_, (false), (by first | rfl | (simp; done) | (simp [*]; done) | (simp [bne, List.isEmpty_iff]; done) | (simp [bne, List.isEmpty_iff, *]; done) | (simp [bne]; rfl)), H', ⟨by first | omega | exact Nat.le_refl _⟩, by repeat (first | exact Drawn0.refl _ | apply Drawn0.step)⟩
 case rest =>
  clear HC5
  try clear c1
  try clear p1
  try clear q1
  try clear hx1
  try clear p2
  try clear c6
  try clear c6b0
  try clear c6b1
  try clear p6
  try clear c8
  try clear c8b0
  try clear c9
  try clear c9b0
  try clear c10
  try clear c10b0
  try clear p10
  try clear q10
  try clear hx10
  try clear c11
  try clear c11b0
  try clear hx105_0
  try clear hx106_0
  try clear hx106_1
  try clear hx106_2
  try clear hx106_3
  try clear hx106_4
  try clear hx106_5
  try clear p105
  try clear p106
  try clear q105
  try clear q106
  obtain ⟨kq, x28_4, rfl, HA, HJ4, ⟨mc4, rfl⟩⟩ := hcut
  cases kq with
  | zero => exact absurd HA.out (by simp [tree_nested.j0])
  | succ kj4 =>
   have H := HA.out
   clear HA
   simp only [tree_nested.j0] at H
   by_cases c13 : x28_4 = true
   ·subst c13
    have H1 : (some false) = some r := by rw [if_pos rfl] at H; exact H
    clear H
    have H := H1
    clear H1
    obtain rfl := Option.some.inj H
    go_wp2
    go_ret
    exact ⟨by first | rfl | (simp; done) | (simp [*]; done) | (simp [bne, List.isEmpty_iff]; done) | (simp [bne, List.isEmpty_iff, *]; done) | (simp [bne]; rfl), by repeat (first | exact Drawn0.refl _ | apply Drawn0.step)⟩
   ·replace c13 := Bool.eq_false_iff.mpr c13
    subst c13
    have H1 : (tree_nested.l0 kj4 l0 l1 t104 false (wrap64 ((l1.length : Int) - 1))) = some r := by rw [if_neg (show ¬ (false = true) by decide)] at H; exact H
    clear H
    have H := H1
    clear H1
    have H' := Aside0.mk H
    clear H
    go_wp2
    go_loopg [8, 9] kj4 (fun kq v8 v9 w' => ∃ (x8_2 : Bool) (x9_2 : Int), v8 = .bool x8_2 ∧ v9 = .int .i64 x9_2 ∧ Aside0 (tree_nested.l0 kq l0 l1 t104 x8_2 x9_2 = some r) ∧ Aside0 (kq ≤ kj4) ∧ Drawn0 w w')
    case atStart => exact ⟨(false), (wrap64 ((l1.length : Int) - 1)), (by first | rfl | (simp; done) | (simp [*]; done) | (simp [bne, List.isEmpty_iff]; done) | (simp [bne, List.isEmpty_iff, *]; done) | (simp [bne]; rfl)), (by first | rfl | (simp; done) | (simp [*]; done) | (simp [bne, List.isEmpty_iff]; done) | (simp [bne, List.isEmpty_iff, *]; done) | (simp [bne]; rfl)), H', ⟨Nat.le_refl _⟩, by repeat (first | exact Drawn0.refl _ | apply Drawn0.step)⟩
    case round =>
     clear H'
     try clear c1
     try clear p1
     try clear q1
     try clear hx1
     try clear p2
     try clear c4
     try clear c6
     try clear c6b0
     try clear c6b1
     try clear p6
     try clear c8
     try clear c8b0
     try clear c9
     try clear c9b0
     try clear c10
     try clear c10b0
     try clear p10
     try clear q10
     try clear hx10
     try clear c11
     try clear c11b0
     try clear c13
     try clear hx105_0
     try clear hx106_0
     try clear hx106_1
     try clear hx106_2
     try clear hx106_3
     try clear hx106_4
     try clear hx106_5
     try clear p1
     try clear p10
     try clear p105
     try clear p106
     try clear p2
     try clear p6
     try clear q1
     try clear q10
     try clear q105
     try clear q106
     obtain ⟨x8_2, x9_2, rfl, rfl, HA, HK2, ⟨m2, rfl⟩⟩ := hrel
     cases gk with
     | zero => exact absurd HA.out (by simp [tree_nested.l0])
     | succ k2 =>
      have H := HA.out
      clear HA
      simp only [tree_nested.l0] at H
      by_cases c14 : x9_2 > 0
      ·rw [if_pos c14] at H
       have c14b0 : decide (0 < x9_2) = true := decide_eq_true c14
       clear c14
       by_cases c15 : 0 ≤ x9_2
       ·rw [if_pos c15] at H
        have c15b0 : decide (0 ≤ x9_2) = true := decide_eq_true c15
        clear c15
        by_cases c16 : x9_2 < (l1.length : Int)
        ·rw [if_pos c16] at H
         have c16b0 : decide (x9_2 < (l1.length : Int)) = true := decide_eq_true c16
         clear c16
         by_cases c17 : 0 ≤ (rd l1 x9_2)
         ·rw [if_pos c17] at H
          have c17b0 : decide (0 ≤ (rd l1 x9_2)) = true := decide_eq_true c17
          clear c17
          by_cases c18 : (rd l1 x9_2) < (l0.length : Int)
          ·rw [if_pos c18] at H
           have c18b0 : decide ((rd l1 x9_2) < (l0.length : Int)) = true := decide_eq_true c18
           clear c18
           replace H := Option.bind_eq_some_iff.mp H
           obtain ⟨t110, A190, H⟩ := H
           replace H : (if t110 = true then (if ((rd_T37 l0 (rd l1 x9_2)).f1).toList = ([112] : List UInt8) then (some false) else (if t104 = 6 then (if ((rd_T37 l0 (rd l1 x9_2)).f1).toList = ([97] : List UInt8) then (some false) else (if t104 = 3 then (if ((rd_T37 l0 (rd l1 x9_2)).f1).toList = ([108, 105] : List UInt8) then (if x8_2 = true then (tree_nested.l0 k2 l0 l1 t104 true (wrap64 (x9_2 - 1))) else (some false)) else (if x8_2 = true then (tree_nested.l0 k2 l0 l1 t104 true (wrap64 (x9_2 - 1))) else ((tree_wall.f k2 ((rd_T37 l0 (rd l1 x9_2)).f1)).bind fun t111 => (tree_nested.l0 k2 l0 l1 t104 t111 (wrap64 (x9_2 - 1)))))) else (if x8_2 = true then (tree_nested.l0 k2 l0 l1 t104 true (wrap64 (x9_2 - 1))) else ((tree_wall.f k2 ((rd_T37 l0 (rd l1 x9_2)).f1)).bind fun t112 => (tree_nested.l0 k2 l0 l1 t104 t112 (wrap64 (x9_2 - 1))))))) else (if t104 = 3 then (if ((rd_T37 l0 (rd l1 x9_2)).f1).toList = ([108, 105] : List UInt8) then (if x8_2 = true then (tree_nested.l0 k2 l0 l1 t104 true (wrap64 (x9_2 - 1))) else (some false)) else (if x8_2 = true then (tree_nested.l0 k2 l0 l1 t104 true (wrap64 (x9_2 - 1))) else ((tree_wall.f k2 ((rd_T37 l0 (rd l1 x9_2)).f1)).bind fun t113 => (tree_nested.l0 k2 l0 l1 t104 t113 (wrap64 (x9_2 - 1)))))) else (if x8_2 = true then (tree_nested.l0 k2 l0 l1 t104 true (wrap64 (x9_2 - 1))) else ((tree_wall.f k2 ((rd_T37 l0 (rd l1 x9_2)).f1)).bind fun t114 => (tree_nested.l0 k2 l0 l1 t104 t114 (wrap64 (x9_2 - 1)))))))) else (if t104 = 6 then (if ((rd_T37 l0 (rd l1 x9_2)).f1).toList = ([97] : List UInt8) then (some false) else (if t104 = 3 then (if ((rd_T37 l0 (rd l1 x9_2)).f1).toList = ([108, 105] : List UInt8) then (if x8_2 = true then (tree_nested.l0 k2 l0 l1 t104 true (wrap64 (x9_2 - 1))) else (some false)) else (if x8_2 = true then (tree_nested.l0 k2 l0 l1 t104 true (wrap64 (x9_2 - 1))) else ((tree_wall.f k2 ((rd_T37 l0 (rd l1 x9_2)).f1)).bind fun t115 => (tree_nested.l0 k2 l0 l1 t104 t115 (wrap64 (x9_2 - 1)))))) else (if x8_2 = true then (tree_nested.l0 k2 l0 l1 t104 true (wrap64 (x9_2 - 1))) else ((tree_wall.f k2 ((rd_T37 l0 (rd l1 x9_2)).f1)).bind fun t116 => (tree_nested.l0 k2 l0 l1 t104 t116 (wrap64 (x9_2 - 1))))))) else (if t104 = 3 then (if ((rd_T37 l0 (rd l1 x9_2)).f1).toList = ([108, 105] : List UInt8) then (if x8_2 = true then (tree_nested.l0 k2 l0 l1 t104 true (wrap64 (x9_2 - 1))) else (some false)) else (if x8_2 = true then (tree_nested.l0 k2 l0 l1 t104 true (wrap64 (x9_2 - 1))) else ((tree_wall.f k2 ((rd_T37 l0 (rd l1 x9_2)).f1)).bind fun t117 => (tree_nested.l0 k2 l0 l1 t104 t117 (wrap64 (x9_2 - 1)))))) else (if x8_2 = true then (tree_nested.l0 k2 l0 l1 t104 true (wrap64 (x9_2 - 1))) else ((tree_wall.f k2 ((rd_T37 l0 (rd l1 x9_2)).f1)).bind fun t118 => (tree_nested.l0 k2 l0 l1 t104 t118 (wrap64 (x9_2 - 1)))))))) = some r := H
           have A19 := Aside0.mk A190
           clear A190
           by_cases c20 : t110 = true
           ·subst c20
            have H1 : (if ((rd_T37 l0 (rd l1 x9_2)).f1).toList = ([112] : List UInt8) then (some false) else (if t104 = 6 then (if ((rd_T37 l0 (rd l1 x9_2)).f1).toList = ([97] : List UInt8) then (some false) else (if t104 = 3 then (if ((rd_T37 l0 (rd l1 x9_2)).f1).toList = ([108, 105] : List UInt8) then (if x8_2 = true then (tree_nested.l0 k2 l0 l1 t104 true (wrap64 (x9_2 - 1))) else (some false)) else (if x8_2 = true then (tree_nested.l0 k2 l0 l1 t104 true (wrap64 (x9_2 - 1))) else ((tree_wall.f k2 ((rd_T37 l0 (rd l1 x9_2)).f1)).bind fun t111 => (tree_nested.l0 k2 l0 l1 t104 t111 (wrap64 (x9_2 - 1)))))) else (if x8_2 = true then (tree_nested.l0 k2 l0 l1 t104 true (wrap64 (x9_2 - 1))) else ((tree_wall.f k2 ((rd_T37 l0 (rd l1 x9_2)).f1)).bind fun t112 => (tree_nested.l0 k2 l0 l1 t104 t112 (wrap64 (x9_2 - 1))))))) else (if t104 = 3 then (if ((rd_T37 l0 (rd l1 x9_2)).f1).toList = ([108, 105] : List UInt8) then (if x8_2 = true then (tree_nested.l0 k2 l0 l1 t104 true (wrap64 (x9_2 - 1))) else (some false)) else (if x8_2 = true then (tree_nested.l0 k2 l0 l1 t104 true (wrap64 (x9_2 - 1))) else ((tree_wall.f k2 ((rd_T37 l0 (rd l1 x9_2)).f1)).bind fun t113 => (tree_nested.l0 k2 l0 l1 t104 t113 (wrap64 (x9_2 - 1)))))) else (if x8_2 = true then (tree_nested.l0 k2 l0 l1 t104 true (wrap64 (x9_2 - 1))) else ((tree_wall.f k2 ((rd_T37 l0 (rd l1 x9_2)).f1)).bind fun t114 => (tree_nested.l0 k2 l0 l1 t104 t114 (wrap64 (x9_2 - 1)))))))) = some r := by rw [if_pos rfl] at H; exact H
            clear H
            have H := H1
            clear H1
            by_cases c21 : ((rd_T37 l0 (rd l1 x9_2)).f1).toList = ([112] : List UInt8)
            ·rw [if_pos c21] at H
             have c21b0 : (((rd_T37 l0 (rd l1 x9_2)).f1).toList == ([112] : List UInt8)) = true := beq_iff_eq.mpr c21
             have c21b1 : (((rd_T37 l0 (rd l1 x9_2)).f1).toList != ([112] : List UInt8)) = false := bne_eq_false_iff_eq.mpr c21
             clear c21
             obtain rfl := Option.some.inj H
             have p108 : 0 ≤ (x9_2 : Int) := of_decide_eq_true (by first | (with_reducible assumption) | assumption)
             have q108 : x9_2 < (l1.length : Int) := of_decide_eq_true (by first | (with_reducible assumption) | assumption)
             obtain ⟨ad108, e108, hx108_0⟩ := Kd.at_int HR1.out x9_2 p108 q108
             cases e108
             replace p108 := eq_true p108
             replace q108 := eq_true q108
             have p109 : 0 ≤ ((rd l1 x9_2) : Int) := of_decide_eq_true (by first | (with_reducible assumption) | assumption)
             have q109 : (rd l1 x9_2) < (l0.length : Int) := of_decide_eq_true (by first | (with_reducible assumption) | assumption)
             obtain ⟨ad109, A109_2, c109_2, A109_5, c109_5, e109, hx109_0, hx109_1, hx109_2, hx109_3, hx109_4, hx109_5, hl109_2, hi109_2, hl109_5, hi109_5⟩ := at_T37 HR0.out (rd l1 x9_2) p109 q109
             cases e109
             have HR109_2 := Aside0.mk hi109_2
             have HC109_2 := Aside0.mk hl109_2
             clear hi109_2 hl109_2
             have HR109_5 := Aside0.mk hi109_5
             have HC109_5 := Aside0.mk hl109_5
             clear hi109_5 hl109_5
             replace p109 := eq_true p109
             replace q109 := eq_true q109
             go_wp2_with (first | ((with_reducible refine gate_callee (f := 75) rfl ?_); refine goesL_ (some 45) rfl rfl Tryd.func75 (by kernel_rfl) rfl #[.int .u8 t104] rfl (by (try simp only [List.map_toArray, List.map_cons, List.map_nil]); first | done | rfl | (simp only [List.length_drop, List.length_take]; rfl)) ?_; (with_reducible refine (tree_ends.calls t104 true _ A19.out).mono ?_); rintro e w' ⟨rfl, ⟨nd, rfl⟩⟩; refine ⟨_, rfl, ?_⟩))
             go_ret
             exact ⟨by first | rfl | (simp; done) | (simp [*]; done) | (simp [bne, List.isEmpty_iff]; done) | (simp [bne, List.isEmpty_iff, *]; done) | (simp [bne]; rfl), by repeat (first | exact Drawn0.refl _ | apply Drawn0.step)⟩
            ·rw [if_neg c21] at H
             have c21b0 : (((rd_T37 l0 (rd l1 x9_2)).f1).toList == ([112] : List UInt8)) = false := beq_eq_false_iff_ne.mpr c21
             have c21b1 : (((rd_T37 l0 (rd l1 x9_2)).f1).toList != ([112] : List UInt8)) = true := bne_iff_ne.mpr c21
             by_cases c22 : t104 = 6
             ·rw [if_pos c22] at H
              have c22b0 : (t104 == 6) = true := beq_iff_eq.mpr c22
              have c22b1 : (t104 != 6) = false := bne_eq_false_iff_eq.mpr c22
              clear c22
              by_cases c23 : ((rd_T37 l0 (rd l1 x9_2)).f1).toList = ([97] : List UInt8)
              ·rw [if_pos c23] at H
               have c23b0 : (((rd_T37 l0 (rd l1 x9_2)).f1).toList == ([97] : List UInt8)) = true := beq_iff_eq.mpr c23
               have c23b1 : (((rd_T37 l0 (rd l1 x9_2)).f1).toList != ([97] : List UInt8)) = false := bne_eq_false_iff_eq.mpr c23
               clear c23
               obtain rfl := Option.some.inj H
               have p108 : 0 ≤ (x9_2 : Int) := of_decide_eq_true (by first | (with_reducible assumption) | assumption)
               have q108 : x9_2 < (l1.length : Int) := of_decide_eq_true (by first | (with_reducible assumption) | assumption)
               obtain ⟨ad108, e108, hx108_0⟩ := Kd.at_int HR1.out x9_2 p108 q108
               cases e108
               replace p108 := eq_true p108
               replace q108 := eq_true q108
               have p109 : 0 ≤ ((rd l1 x9_2) : Int) := of_decide_eq_true (by first | (with_reducible assumption) | assumption)
               have q109 : (rd l1 x9_2) < (l0.length : Int) := of_decide_eq_true (by first | (with_reducible assumption) | assumption)
               obtain ⟨ad109, A109_2, c109_2, A109_5, c109_5, e109, hx109_0, hx109_1, hx109_2, hx109_3, hx109_4, hx109_5, hl109_2, hi109_2, hl109_5, hi109_5⟩ := at_T37 HR0.out (rd l1 x9_2) p109 q109
               cases e109
               have HR109_2 := Aside0.mk hi109_2
               have HC109_2 := Aside0.mk hl109_2
               clear hi109_2 hl109_2
               have HR109_5 := Aside0.mk hi109_5
               have HC109_5 := Aside0.mk hl109_5
               clear hi109_5 hl109_5
               replace p109 := eq_true p109
               replace q109 := eq_true q109
               go_wp2_with (first | ((with_reducible refine gate_callee (f := 75) rfl ?_); refine goesL_ (some 45) rfl rfl Tryd.func75 (by kernel_rfl) rfl #[.int .u8 t104] rfl (by (try simp only [List.map_toArray, List.map_cons, List.map_nil]); first | done | rfl | (simp only [List.length_drop, List.length_take]; rfl)) ?_; (with_reducible refine (tree_ends.calls t104 true _ A19.out).mono ?_); rintro e w' ⟨rfl, ⟨nd, rfl⟩⟩; refine ⟨_, rfl, ?_⟩))
               go_ret
               exact ⟨by first | rfl | (simp; done) | (simp [*]; done) | (simp [bne, List.isEmpty_iff]; done) | (simp [bne, List.isEmpty_iff, *]; done) | (simp [bne]; rfl), by repeat (first | exact Drawn0.refl _ | apply Drawn0.step)⟩
              ·rw [if_neg c23] at H
               have c23b0 : (((rd_T37 l0 (rd l1 x9_2)).f1).toList == ([97] : List UInt8)) = false := beq_eq_false_iff_ne.mpr c23
               have c23b1 : (((rd_T37 l0 (rd l1 x9_2)).f1).toList != ([97] : List UInt8)) = true := bne_iff_ne.mpr c23
               by_cases c24 : t104 = 3
               ·rw [if_pos c24] at H
                have c24b0 : (t104 == 3) = true := beq_iff_eq.mpr c24
                have c24b1 : (t104 != 3) = false := bne_eq_false_iff_eq.mpr c24
                clear c24
                by_cases c25 : ((rd_T37 l0 (rd l1 x9_2)).f1).toList = ([108, 105] : List UInt8)
                ·rw [if_pos c25] at H
                 have c25b0 : (((rd_T37 l0 (rd l1 x9_2)).f1).toList == ([108, 105] : List UInt8)) = true := beq_iff_eq.mpr c25
                 have c25b1 : (((rd_T37 l0 (rd l1 x9_2)).f1).toList != ([108, 105] : List UInt8)) = false := bne_eq_false_iff_eq.mpr c25
                 clear c25
                 by_cases c26 : x8_2 = true
                 ·subst c26
                  have H1 : (tree_nested.l0 k2 l0 l1 t104 true (wrap64 (x9_2 - 1))) = some r := by rw [if_pos rfl] at H; exact H
                  clear H
                  have H := H1
                  clear H1
                  have H' := Aside0.mk H
                  clear H
                  have p108 : 0 ≤ (x9_2 : Int) := of_decide_eq_true (by first | (with_reducible assumption) | assumption)
                  have q108 : x9_2 < (l1.length : Int) := of_decide_eq_true (by first | (with_reducible assumption) | assumption)
                  obtain ⟨ad108, e108, hx108_0⟩ := Kd.at_int HR1.out x9_2 p108 q108
                  cases e108
                  replace p108 := eq_true p108
                  replace q108 := eq_true q108
                  have p109 : 0 ≤ ((rd l1 x9_2) : Int) := of_decide_eq_true (by first | (with_reducible assumption) | assumption)
                  have q109 : (rd l1 x9_2) < (l0.length : Int) := of_decide_eq_true (by first | (with_reducible assumption) | assumption)
                  obtain ⟨ad109, A109_2, c109_2, A109_5, c109_5, e109, hx109_0, hx109_1, hx109_2, hx109_3, hx109_4, hx109_5, hl109_2, hi109_2, hl109_5, hi109_5⟩ := at_T37 HR0.out (rd l1 x9_2) p109 q109
                  cases e109
                  have HR109_2 := Aside0.mk hi109_2
                  have HC109_2 := Aside0.mk hl109_2
                  clear hi109_2 hl109_2
                  have HR109_5 := Aside0.mk hi109_5
                  have HC109_5 := Aside0.mk hl109_5
                  clear hi109_5 hl109_5
                  replace p109 := eq_true p109
                  replace q109 := eq_true q109
                  go_wp2_with (first | ((with_reducible refine gate_callee (f := 75) rfl ?_); refine goesL_ (some 45) rfl rfl Tryd.func75 (by kernel_rfl) rfl #[.int .u8 t104] rfl (by (try simp only [List.map_toArray, List.map_cons, List.map_nil]); first | done | rfl | (simp only [List.length_drop, List.length_take]; rfl)) ?_; (with_reducible refine (tree_ends.calls t104 true _ A19.out).mono ?_); rintro e w' ⟨rfl, ⟨nd, rfl⟩⟩; refine ⟨_, rfl, ?_⟩))
                  go_roundg k2
                  case measure => have := HJ4.out; have := HK2.out; omega
                  case rel => exact ⟨(true), (wrap64 (x9_2 - 1)), (by first | rfl | (simp; done) | (simp [*]; done) | (simp [bne, List.isEmpty_iff]; done) | (simp [bne, List.isEmpty_iff, *]; done) | (simp [bne]; rfl)), (by first | rfl | (simp; done) | (simp [*]; done) | (simp [bne, List.isEmpty_iff]; done) | (simp [bne, List.isEmpty_iff, *]; done) | (simp [bne]; rfl)), H', ⟨by have := HJ4.out; have := HK2.out; omega⟩, by repeat (first | exact Drawn0.refl _ | apply Drawn0.step)⟩
                 ·replace c26 := Bool.eq_false_iff.mpr c26
                  subst c26
                  have H1 : (some false) = some r := by rw [if_neg (show ¬ (false = true) by decide)] at H; exact H
                  clear H
                  have H := H1
                  clear H1
                  obtain rfl := Option.some.inj H
                  have p108 : 0 ≤ (x9_2 : Int) := of_decide_eq_true (by first | (with_reducible assumption) | assumption)
                  have q108 : x9_2 < (l1.length : Int) := of_decide_eq_true (by first | (with_reducible assumption) | assumption)
                  obtain ⟨ad108, e108, hx108_0⟩ := Kd.at_int HR1.out x9_2 p108 q108
                  cases e108
                  replace p108 := eq_true p108
                  replace q108 := eq_true q108
                  have p109 : 0 ≤ ((rd l1 x9_2) : Int) := of_decide_eq_true (by first | (with_reducible assumption) | assumption)
                  have q109 : (rd l1 x9_2) < (l0.length : Int) := of_decide_eq_true (by first | (with_reducible assumption) | assumption)
                  obtain ⟨ad109, A109_2, c109_2, A109_5, c109_5, e109, hx109_0, hx109_1, hx109_2, hx109_3, hx109_4, hx109_5, hl109_2, hi109_2, hl109_5, hi109_5⟩ := at_T37 HR0.out (rd l1 x9_2) p109 q109
                  cases e109
                  have HR109_2 := Aside0.mk hi109_2
                  have HC109_2 := Aside0.mk hl109_2
                  clear hi109_2 hl109_2
                  have HR109_5 := Aside0.mk hi109_5
                  have HC109_5 := Aside0.mk hl109_5
                  clear hi109_5 hl109_5
                  replace p109 := eq_true p109
                  replace q109 := eq_true q109
                  go_wp2_with (first | ((with_reducible refine gate_callee (f := 75) rfl ?_); refine goesL_ (some 45) rfl rfl Tryd.func75 (by kernel_rfl) rfl #[.int .u8 t104] rfl (by (try simp only [List.map_toArray, List.map_cons, List.map_nil]); first | done | rfl | (simp only [List.length_drop, List.length_take]; rfl)) ?_; (with_reducible refine (tree_ends.calls t104 true _ A19.out).mono ?_); rintro e w' ⟨rfl, ⟨nd, rfl⟩⟩; refine ⟨_, rfl, ?_⟩))
                  go_ret
                  exact ⟨by first | rfl | (simp; done) | (simp [*]; done) | (simp [bne, List.isEmpty_iff]; done) | (simp [bne, List.isEmpty_iff, *]; done) | (simp [bne]; rfl), by repeat (first | exact Drawn0.refl _ | apply Drawn0.step)⟩
                ·rw [if_neg c25] at H
                 have c25b0 : (((rd_T37 l0 (rd l1 x9_2)).f1).toList == ([108, 105] : List UInt8)) = false := beq_eq_false_iff_ne.mpr c25
                 have c25b1 : (((rd_T37 l0 (rd l1 x9_2)).f1).toList != ([108, 105] : List UInt8)) = true := bne_iff_ne.mpr c25
                 by_cases c27 : x8_2 = true
                 ·subst c27
                  have H1 : (tree_nested.l0 k2 l0 l1 t104 true (wrap64 (x9_2 - 1))) = some r := by rw [if_pos rfl] at H; exact H
                  clear H
                  have H := H1
                  clear H1
                  have H' := Aside0.mk H
                  clear H
                  have p108 : 0 ≤ (x9_2 : Int) := of_decide_eq_true (by first | (with_reducible assumption) | assumption)
                  have q108 : x9_2 < (l1.length : Int) := of_decide_eq_true (by first | (with_reducible assumption) | assumption)
                  obtain ⟨ad108, e108, hx108_0⟩ := Kd.at_int HR1.out x9_2 p108 q108
                  cases e108
                  replace p108 := eq_true p108
                  replace q108 := eq_true q108
                  have p109 : 0 ≤ ((rd l1 x9_2) : Int) := of_decide_eq_true (by first | (with_reducible assumption) | assumption)
                  have q109 : (rd l1 x9_2) < (l0.length : Int) := of_decide_eq_true (by first | (with_reducible assumption) | assumption)
                  obtain ⟨ad109, A109_2, c109_2, A109_5, c109_5, e109, hx109_0, hx109_1, hx109_2, hx109_3, hx109_4, hx109_5, hl109_2, hi109_2, hl109_5, hi109_5⟩ := at_T37 HR0.out (rd l1 x9_2) p109 q109
                  cases e109
                  have HR109_2 := Aside0.mk hi109_2
                  have HC109_2 := Aside0.mk hl109_2
                  clear hi109_2 hl109_2
                  have HR109_5 := Aside0.mk hi109_5
                  have HC109_5 := Aside0.mk hl109_5
                  clear hi109_5 hl109_5
                  replace p109 := eq_true p109
                  replace q109 := eq_true q109
                  go_wp2_with (first | ((with_reducible refine gate_callee (f := 75) rfl ?_); refine goesL_ (some 45) rfl rfl Tryd.func75 (by kernel_rfl) rfl #[.int .u8 t104] rfl (by (try simp only [List.map_toArray, List.map_cons, List.map_nil]); first | done | rfl | (simp only [List.length_drop, List.length_take]; rfl)) ?_; (with_reducible refine (tree_ends.calls t104 true _ A19.out).mono ?_); rintro e w' ⟨rfl, ⟨nd, rfl⟩⟩; refine ⟨_, rfl, ?_⟩))
                  go_roundg k2
                  case measure => have := HJ4.out; have := HK2.out; omega
                  case rel => exact ⟨(true), (wrap64 (x9_2 - 1)), (by first | rfl | (simp; done) | (simp [*]; done) | (simp [bne, List.isEmpty_iff]; done) | (simp [bne, List.isEmpty_iff, *]; done) | (simp [bne]; rfl)), (by first | rfl | (simp; done) | (simp [*]; done) | (simp [bne, List.isEmpty_iff]; done) | (simp [bne, List.isEmpty_iff, *]; done) | (simp [bne]; rfl)), H', ⟨by have := HJ4.out; have := HK2.out; omega⟩, by repeat (first | exact Drawn0.refl _ | apply Drawn0.step)⟩
                 ·replace c27 := Bool.eq_false_iff.mpr c27
                  subst c27
                  have H1 : ((tree_wall.f k2 ((rd_T37 l0 (rd l1 x9_2)).f1)).bind fun t111 => (tree_nested.l0 k2 l0 l1 t104 t111 (wrap64 (x9_2 - 1)))) = some r := by rw [if_neg (show ¬ (false = true) by decide)] at H; exact H
                  clear H
                  have H := H1
                  clear H1
                  replace H := Option.bind_eq_some_iff.mp H
                  obtain ⟨t111, A280, H⟩ := H
                  replace H : (tree_nested.l0 k2 l0 l1 t104 t111 (wrap64 (x9_2 - 1))) = some r := H
                  have A28 := Aside0.mk A280
                  clear A280
                  have H' := Aside0.mk H
                  clear H
                  have p108 : 0 ≤ (x9_2 : Int) := of_decide_eq_true (by first | (with_reducible assumption) | assumption)
                  have q108 : x9_2 < (l1.length : Int) := of_decide_eq_true (by first | (with_reducible assumption) | assumption)
                  obtain ⟨ad108, e108, hx108_0⟩ := Kd.at_int HR1.out x9_2 p108 q108
                  cases e108
                  replace p108 := eq_true p108
                  replace q108 := eq_true q108
                  have p109 : 0 ≤ ((rd l1 x9_2) : Int) := of_decide_eq_true (by first | (with_reducible assumption) | assumption)
                  have q109 : (rd l1 x9_2) < (l0.length : Int) := of_decide_eq_true (by first | (with_reducible assumption) | assumption)
                  obtain ⟨ad109, A109_2, c109_2, A109_5, c109_5, e109, hx109_0, hx109_1, hx109_2, hx109_3, hx109_4, hx109_5, hl109_2, hi109_2, hl109_5, hi109_5⟩ := at_T37 HR0.out (rd l1 x9_2) p109 q109
                  cases e109
                  have HR109_2 := Aside0.mk hi109_2
                  have HC109_2 := Aside0.mk hl109_2
                  clear hi109_2 hl109_2
                  have HR109_5 := Aside0.mk hi109_5
                  have HC109_5 := Aside0.mk hl109_5
                  clear hi109_5 hl109_5
                  replace p109 := eq_true p109
                  replace q109 := eq_true q109
                  go_wp2_with (first | ((with_reducible refine gate_callee (f := 75) rfl ?_); refine goesL_ (some 45) rfl rfl Tryd.func75 (by kernel_rfl) rfl #[.int .u8 t104] rfl (by (try simp only [List.map_toArray, List.map_cons, List.map_nil]); first | done | rfl | (simp only [List.length_drop, List.length_take]; rfl)) ?_; (with_reducible refine (tree_ends.calls t104 true _ A19.out).mono ?_); rintro e w' ⟨rfl, ⟨nd, rfl⟩⟩; refine ⟨_, rfl, ?_⟩) | (go_at_call 95; (with_reducible refine (tree_wall.calls k2 ((rd_T37 l0 (rd l1 x9_2)).f1) t111 _ A28.out).mono ?_); rintro e w' ⟨rfl, ⟨nd, rfl⟩⟩))
                  go_roundg k2
                  case measure => have := HJ4.out; have := HK2.out; omega
                  case rel => exact ⟨(t111), (wrap64 (x9_2 - 1)), (by first | rfl | (simp; done) | (simp [*]; done) | (simp [bne, List.isEmpty_iff]; done) | (simp [bne, List.isEmpty_iff, *]; done) | (simp [bne]; rfl)), (by first | rfl | (simp; done) | (simp [*]; done) | (simp [bne, List.isEmpty_iff]; done) | (simp [bne, List.isEmpty_iff, *]; done) | (simp [bne]; rfl)), H', ⟨by have := HJ4.out; have := HK2.out; omega⟩, by repeat (first | exact Drawn0.refl _ | apply Drawn0.step)⟩
               ·rw [if_neg c24] at H
                have c24b0 : (t104 == 3) = false := beq_eq_false_iff_ne.mpr c24
                have c24b1 : (t104 != 3) = true := bne_iff_ne.mpr c24
                by_cases c29 : x8_2 = true
                ·subst c29
                 have H1 : (tree_nested.l0 k2 l0 l1 t104 true (wrap64 (x9_2 - 1))) = some r := by rw [if_pos rfl] at H; exact H
                 clear H
                 have H := H1
                 clear H1
                 have H' := Aside0.mk H
                 clear H
                 have p108 : 0 ≤ (x9_2 : Int) := of_decide_eq_true (by first | (with_reducible assumption) | assumption)
                 have q108 : x9_2 < (l1.length : Int) := of_decide_eq_true (by first | (with_reducible assumption) | assumption)
                 obtain ⟨ad108, e108, hx108_0⟩ := Kd.at_int HR1.out x9_2 p108 q108
                 cases e108
                 replace p108 := eq_true p108
                 replace q108 := eq_true q108
                 have p109 : 0 ≤ ((rd l1 x9_2) : Int) := of_decide_eq_true (by first | (with_reducible assumption) | assumption)
                 have q109 : (rd l1 x9_2) < (l0.length : Int) := of_decide_eq_true (by first | (with_reducible assumption) | assumption)
                 obtain ⟨ad109, A109_2, c109_2, A109_5, c109_5, e109, hx109_0, hx109_1, hx109_2, hx109_3, hx109_4, hx109_5, hl109_2, hi109_2, hl109_5, hi109_5⟩ := at_T37 HR0.out (rd l1 x9_2) p109 q109
                 cases e109
                 have HR109_2 := Aside0.mk hi109_2
                 have HC109_2 := Aside0.mk hl109_2
                 clear hi109_2 hl109_2
                 have HR109_5 := Aside0.mk hi109_5
                 have HC109_5 := Aside0.mk hl109_5
                 clear hi109_5 hl109_5
                 replace p109 := eq_true p109
                 replace q109 := eq_true q109
                 go_wp2_with (first | ((with_reducible refine gate_callee (f := 75) rfl ?_); refine goesL_ (some 45) rfl rfl Tryd.func75 (by kernel_rfl) rfl #[.int .u8 t104] rfl (by (try simp only [List.map_toArray, List.map_cons, List.map_nil]); first | done | rfl | (simp only [List.length_drop, List.length_take]; rfl)) ?_; (with_reducible refine (tree_ends.calls t104 true _ A19.out).mono ?_); rintro e w' ⟨rfl, ⟨nd, rfl⟩⟩; refine ⟨_, rfl, ?_⟩))
                 go_roundg k2
                 case measure => have := HJ4.out; have := HK2.out; omega
                 case rel => exact ⟨(true), (wrap64 (x9_2 - 1)), (by first | rfl | (simp; done) | (simp [*]; done) | (simp [bne, List.isEmpty_iff]; done) | (simp [bne, List.isEmpty_iff, *]; done) | (simp [bne]; rfl)), (by first | rfl | (simp; done) | (simp [*]; done) | (simp [bne, List.isEmpty_iff]; done) | (simp [bne, List.isEmpty_iff, *]; done) | (simp [bne]; rfl)), H', ⟨by have := HJ4.out; have := HK2.out; omega⟩, by repeat (first | exact Drawn0.refl _ | apply Drawn0.step)⟩
                ·replace c29 := Bool.eq_false_iff.mpr c29
                 subst c29
                 have H1 : ((tree_wall.f k2 ((rd_T37 l0 (rd l1 x9_2)).f1)).bind fun t112 => (tree_nested.l0 k2 l0 l1 t104 t112 (wrap64 (x9_2 - 1)))) = some r := by rw [if_neg (show ¬ (false = true) by decide)] at H; exact H
                 clear H
                 have H := H1
                 clear H1
                 replace H := Option.bind_eq_some_iff.mp H
                 obtain ⟨t112, A300, H⟩ := H
                 replace H : (tree_nested.l0 k2 l0 l1 t104 t112 (wrap64 (x9_2 - 1))) = some r := H
                 have A30 := Aside0.mk A300
                 clear A300
                 have H' := Aside0.mk H
                 clear H
                 have p108 : 0 ≤ (x9_2 : Int) := of_decide_eq_true (by first | (with_reducible assumption) | assumption)
                 have q108 : x9_2 < (l1.length : Int) := of_decide_eq_true (by first | (with_reducible assumption) | assumption)
                 obtain ⟨ad108, e108, hx108_0⟩ := Kd.at_int HR1.out x9_2 p108 q108
                 cases e108
                 replace p108 := eq_true p108
                 replace q108 := eq_true q108
                 have p109 : 0 ≤ ((rd l1 x9_2) : Int) := of_decide_eq_true (by first | (with_reducible assumption) | assumption)
                 have q109 : (rd l1 x9_2) < (l0.length : Int) := of_decide_eq_true (by first | (with_reducible assumption) | assumption)
                 obtain ⟨ad109, A109_2, c109_2, A109_5, c109_5, e109, hx109_0, hx109_1, hx109_2, hx109_3, hx109_4, hx109_5, hl109_2, hi109_2, hl109_5, hi109_5⟩ := at_T37 HR0.out (rd l1 x9_2) p109 q109
                 cases e109
                 have HR109_2 := Aside0.mk hi109_2
                 have HC109_2 := Aside0.mk hl109_2
                 clear hi109_2 hl109_2
                 have HR109_5 := Aside0.mk hi109_5
                 have HC109_5 := Aside0.mk hl109_5
                 clear hi109_5 hl109_5
                 replace p109 := eq_true p109
                 replace q109 := eq_true q109
                 go_wp2_with (first | ((with_reducible refine gate_callee (f := 75) rfl ?_); refine goesL_ (some 45) rfl rfl Tryd.func75 (by kernel_rfl) rfl #[.int .u8 t104] rfl (by (try simp only [List.map_toArray, List.map_cons, List.map_nil]); first | done | rfl | (simp only [List.length_drop, List.length_take]; rfl)) ?_; (with_reducible refine (tree_ends.calls t104 true _ A19.out).mono ?_); rintro e w' ⟨rfl, ⟨nd, rfl⟩⟩; refine ⟨_, rfl, ?_⟩) | (go_at_call 95; (with_reducible refine (tree_wall.calls k2 ((rd_T37 l0 (rd l1 x9_2)).f1) t112 _ A30.out).mono ?_); rintro e w' ⟨rfl, ⟨nd, rfl⟩⟩))
                 go_roundg k2
                 case measure => have := HJ4.out; have := HK2.out; omega
                 case rel => exact ⟨(t112), (wrap64 (x9_2 - 1)), (by first | rfl | (simp; done) | (simp [*]; done) | (simp [bne, List.isEmpty_iff]; done) | (simp [bne, List.isEmpty_iff, *]; done) | (simp [bne]; rfl)), (by first | rfl | (simp; done) | (simp [*]; done) | (simp [bne, List.isEmpty_iff]; done) | (simp [bne, List.isEmpty_iff, *]; done) | (simp [bne]; rfl)), H', ⟨by have := HJ4.out; have := HK2.out; omega⟩, by repeat (first | exact Drawn0.refl _ | apply Drawn0.step)⟩
             ·rw [if_neg c22] at H
              have c22b0 : (t104 == 6) = false := beq_eq_false_iff_ne.mpr c22
              have c22b1 : (t104 != 6) = true := bne_iff_ne.mpr c22
              by_cases c31 : t104 = 3
              ·rw [if_pos c31] at H
               have c31b0 : (t104 == 3) = true := beq_iff_eq.mpr c31
               have c31b1 : (t104 != 3) = false := bne_eq_false_iff_eq.mpr c31
               clear c31
               by_cases c32 : ((rd_T37 l0 (rd l1 x9_2)).f1).toList = ([108, 105] : List UInt8)
               ·rw [if_pos c32] at H
                have c32b0 : (((rd_T37 l0 (rd l1 x9_2)).f1).toList == ([108, 105] : List UInt8)) = true := beq_iff_eq.mpr c32
                have c32b1 : (((rd_T37 l0 (rd l1 x9_2)).f1).toList != ([108, 105] : List UInt8)) = false := bne_eq_false_iff_eq.mpr c32
                clear c32
                by_cases c33 : x8_2 = true
                ·subst c33
                 have H1 : (tree_nested.l0 k2 l0 l1 t104 true (wrap64 (x9_2 - 1))) = some r := by rw [if_pos rfl] at H; exact H
                 clear H
                 have H := H1
                 clear H1
                 have H' := Aside0.mk H
                 clear H
                 have p108 : 0 ≤ (x9_2 : Int) := of_decide_eq_true (by first | (with_reducible assumption) | assumption)
                 have q108 : x9_2 < (l1.length : Int) := of_decide_eq_true (by first | (with_reducible assumption) | assumption)
                 obtain ⟨ad108, e108, hx108_0⟩ := Kd.at_int HR1.out x9_2 p108 q108
                 cases e108
                 replace p108 := eq_true p108
                 replace q108 := eq_true q108
                 have p109 : 0 ≤ ((rd l1 x9_2) : Int) := of_decide_eq_true (by first | (with_reducible assumption) | assumption)
                 have q109 : (rd l1 x9_2) < (l0.length : Int) := of_decide_eq_true (by first | (with_reducible assumption) | assumption)
                 obtain ⟨ad109, A109_2, c109_2, A109_5, c109_5, e109, hx109_0, hx109_1, hx109_2, hx109_3, hx109_4, hx109_5, hl109_2, hi109_2, hl109_5, hi109_5⟩ := at_T37 HR0.out (rd l1 x9_2) p109 q109
                 cases e109
                 have HR109_2 := Aside0.mk hi109_2
                 have HC109_2 := Aside0.mk hl109_2
                 clear hi109_2 hl109_2
                 have HR109_5 := Aside0.mk hi109_5
                 have HC109_5 := Aside0.mk hl109_5
                 clear hi109_5 hl109_5
                 replace p109 := eq_true p109
                 replace q109 := eq_true q109
                 go_wp2_with (first | ((with_reducible refine gate_callee (f := 75) rfl ?_); refine goesL_ (some 45) rfl rfl Tryd.func75 (by kernel_rfl) rfl #[.int .u8 t104] rfl (by (try simp only [List.map_toArray, List.map_cons, List.map_nil]); first | done | rfl | (simp only [List.length_drop, List.length_take]; rfl)) ?_; (with_reducible refine (tree_ends.calls t104 true _ A19.out).mono ?_); rintro e w' ⟨rfl, ⟨nd, rfl⟩⟩; refine ⟨_, rfl, ?_⟩))
                 go_roundg k2
                 case measure => have := HJ4.out; have := HK2.out; omega
                 case rel => exact ⟨(true), (wrap64 (x9_2 - 1)), (by first | rfl | (simp; done) | (simp [*]; done) | (simp [bne, List.isEmpty_iff]; done) | (simp [bne, List.isEmpty_iff, *]; done) | (simp [bne]; rfl)), (by first | rfl | (simp; done) | (simp [*]; done) | (simp [bne, List.isEmpty_iff]; done) | (simp [bne, List.isEmpty_iff, *]; done) | (simp [bne]; rfl)), H', ⟨by have := HJ4.out; have := HK2.out; omega⟩, by repeat (first | exact Drawn0.refl _ | apply Drawn0.step)⟩
                ·replace c33 := Bool.eq_false_iff.mpr c33
                 subst c33
                 have H1 : (some false) = some r := by rw [if_neg (show ¬ (false = true) by decide)] at H; exact H
                 clear H
                 have H := H1
                 clear H1
                 obtain rfl := Option.some.inj H
                 have p108 : 0 ≤ (x9_2 : Int) := of_decide_eq_true (by first | (with_reducible assumption) | assumption)
                 have q108 : x9_2 < (l1.length : Int) := of_decide_eq_true (by first | (with_reducible assumption) | assumption)
                 obtain ⟨ad108, e108, hx108_0⟩ := Kd.at_int HR1.out x9_2 p108 q108
                 cases e108
                 replace p108 := eq_true p108
                 replace q108 := eq_true q108
                 have p109 : 0 ≤ ((rd l1 x9_2) : Int) := of_decide_eq_true (by first | (with_reducible assumption) | assumption)
                 have q109 : (rd l1 x9_2) < (l0.length : Int) := of_decide_eq_true (by first | (with_reducible assumption) | assumption)
                 obtain ⟨ad109, A109_2, c109_2, A109_5, c109_5, e109, hx109_0, hx109_1, hx109_2, hx109_3, hx109_4, hx109_5, hl109_2, hi109_2, hl109_5, hi109_5⟩ := at_T37 HR0.out (rd l1 x9_2) p109 q109
                 cases e109
                 have HR109_2 := Aside0.mk hi109_2
                 have HC109_2 := Aside0.mk hl109_2
                 clear hi109_2 hl109_2
                 have HR109_5 := Aside0.mk hi109_5
                 have HC109_5 := Aside0.mk hl109_5
                 clear hi109_5 hl109_5
                 replace p109 := eq_true p109
                 replace q109 := eq_true q109
                 go_wp2_with (first | ((with_reducible refine gate_callee (f := 75) rfl ?_); refine goesL_ (some 45) rfl rfl Tryd.func75 (by kernel_rfl) rfl #[.int .u8 t104] rfl (by (try simp only [List.map_toArray, List.map_cons, List.map_nil]); first | done | rfl | (simp only [List.length_drop, List.length_take]; rfl)) ?_; (with_reducible refine (tree_ends.calls t104 true _ A19.out).mono ?_); rintro e w' ⟨rfl, ⟨nd, rfl⟩⟩; refine ⟨_, rfl, ?_⟩))
                 go_ret
                 exact ⟨by first | rfl | (simp; done) | (simp [*]; done) | (simp [bne, List.isEmpty_iff]; done) | (simp [bne, List.isEmpty_iff, *]; done) | (simp [bne]; rfl), by repeat (first | exact Drawn0.refl _ | apply Drawn0.step)⟩
               ·rw [if_neg c32] at H
                have c32b0 : (((rd_T37 l0 (rd l1 x9_2)).f1).toList == ([108, 105] : List UInt8)) = false := beq_eq_false_iff_ne.mpr c32
                have c32b1 : (((rd_T37 l0 (rd l1 x9_2)).f1).toList != ([108, 105] : List UInt8)) = true := bne_iff_ne.mpr c32
                by_cases c34 : x8_2 = true
                ·subst c34
                 have H1 : (tree_nested.l0 k2 l0 l1 t104 true (wrap64 (x9_2 - 1))) = some r := by rw [if_pos rfl] at H; exact H
                 clear H
                 have H := H1
                 clear H1
                 have H' := Aside0.mk H
                 clear H
                 have p108 : 0 ≤ (x9_2 : Int) := of_decide_eq_true (by first | (with_reducible assumption) | assumption)
                 have q108 : x9_2 < (l1.length : Int) := of_decide_eq_true (by first | (with_reducible assumption) | assumption)
                 obtain ⟨ad108, e108, hx108_0⟩ := Kd.at_int HR1.out x9_2 p108 q108
                 cases e108
                 replace p108 := eq_true p108
                 replace q108 := eq_true q108
                 have p109 : 0 ≤ ((rd l1 x9_2) : Int) := of_decide_eq_true (by first | (with_reducible assumption) | assumption)
                 have q109 : (rd l1 x9_2) < (l0.length : Int) := of_decide_eq_true (by first | (with_reducible assumption) | assumption)
                 obtain ⟨ad109, A109_2, c109_2, A109_5, c109_5, e109, hx109_0, hx109_1, hx109_2, hx109_3, hx109_4, hx109_5, hl109_2, hi109_2, hl109_5, hi109_5⟩ := at_T37 HR0.out (rd l1 x9_2) p109 q109
                 cases e109
                 have HR109_2 := Aside0.mk hi109_2
                 have HC109_2 := Aside0.mk hl109_2
                 clear hi109_2 hl109_2
                 have HR109_5 := Aside0.mk hi109_5
                 have HC109_5 := Aside0.mk hl109_5
                 clear hi109_5 hl109_5
                 replace p109 := eq_true p109
                 replace q109 := eq_true q109
                 go_wp2_with (first | ((with_reducible refine gate_callee (f := 75) rfl ?_); refine goesL_ (some 45) rfl rfl Tryd.func75 (by kernel_rfl) rfl #[.int .u8 t104] rfl (by (try simp only [List.map_toArray, List.map_cons, List.map_nil]); first | done | rfl | (simp only [List.length_drop, List.length_take]; rfl)) ?_; (with_reducible refine (tree_ends.calls t104 true _ A19.out).mono ?_); rintro e w' ⟨rfl, ⟨nd, rfl⟩⟩; refine ⟨_, rfl, ?_⟩))
                 go_roundg k2
                 case measure => have := HJ4.out; have := HK2.out; omega
                 case rel => exact ⟨(true), (wrap64 (x9_2 - 1)), (by first | rfl | (simp; done) | (simp [*]; done) | (simp [bne, List.isEmpty_iff]; done) | (simp [bne, List.isEmpty_iff, *]; done) | (simp [bne]; rfl)), (by first | rfl | (simp; done) | (simp [*]; done) | (simp [bne, List.isEmpty_iff]; done) | (simp [bne, List.isEmpty_iff, *]; done) | (simp [bne]; rfl)), H', ⟨by have := HJ4.out; have := HK2.out; omega⟩, by repeat (first | exact Drawn0.refl _ | apply Drawn0.step)⟩
                ·replace c34 := Bool.eq_false_iff.mpr c34
                 subst c34
                 have H1 : ((tree_wall.f k2 ((rd_T37 l0 (rd l1 x9_2)).f1)).bind fun t113 => (tree_nested.l0 k2 l0 l1 t104 t113 (wrap64 (x9_2 - 1)))) = some r := by rw [if_neg (show ¬ (false = true) by decide)] at H; exact H
                 clear H
                 have H := H1
                 clear H1
                 replace H := Option.bind_eq_some_iff.mp H
                 obtain ⟨t113, A350, H⟩ := H
                 replace H : (tree_nested.l0 k2 l0 l1 t104 t113 (wrap64 (x9_2 - 1))) = some r := H
                 have A35 := Aside0.mk A350
                 clear A350
                 have H' := Aside0.mk H
                 clear H
                 have p108 : 0 ≤ (x9_2 : Int) := of_decide_eq_true (by first | (with_reducible assumption) | assumption)
                 have q108 : x9_2 < (l1.length : Int) := of_decide_eq_true (by first | (with_reducible assumption) | assumption)
                 obtain ⟨ad108, e108, hx108_0⟩ := Kd.at_int HR1.out x9_2 p108 q108
                 cases e108
                 replace p108 := eq_true p108
                 replace q108 := eq_true q108
                 have p109 : 0 ≤ ((rd l1 x9_2) : Int) := of_decide_eq_true (by first | (with_reducible assumption) | assumption)
                 have q109 : (rd l1 x9_2) < (l0.length : Int) := of_decide_eq_true (by first | (with_reducible assumption) | assumption)
                 obtain ⟨ad109, A109_2, c109_2, A109_5, c109_5, e109, hx109_0, hx109_1, hx109_2, hx109_3, hx109_4, hx109_5, hl109_2, hi109_2, hl109_5, hi109_5⟩ := at_T37 HR0.out (rd l1 x9_2) p109 q109
                 cases e109
                 have HR109_2 := Aside0.mk hi109_2
                 have HC109_2 := Aside0.mk hl109_2
                 clear hi109_2 hl109_2
                 have HR109_5 := Aside0.mk hi109_5
                 have HC109_5 := Aside0.mk hl109_5
                 clear hi109_5 hl109_5
                 replace p109 := eq_true p109
                 replace q109 := eq_true q109
                 go_wp2_with (first | ((with_reducible refine gate_callee (f := 75) rfl ?_); refine goesL_ (some 45) rfl rfl Tryd.func75 (by kernel_rfl) rfl #[.int .u8 t104] rfl (by (try simp only [List.map_toArray, List.map_cons, List.map_nil]); first | done | rfl | (simp only [List.length_drop, List.length_take]; rfl)) ?_; (with_reducible refine (tree_ends.calls t104 true _ A19.out).mono ?_); rintro e w' ⟨rfl, ⟨nd, rfl⟩⟩; refine ⟨_, rfl, ?_⟩) | (go_at_call 95; (with_reducible refine (tree_wall.calls k2 ((rd_T37 l0 (rd l1 x9_2)).f1) t113 _ A35.out).mono ?_); rintro e w' ⟨rfl, ⟨nd, rfl⟩⟩))
                 go_roundg k2
                 case measure => have := HJ4.out; have := HK2.out; omega
                 case rel => exact ⟨(t113), (wrap64 (x9_2 - 1)), (by first | rfl | (simp; done) | (simp [*]; done) | (simp [bne, List.isEmpty_iff]; done) | (simp [bne, List.isEmpty_iff, *]; done) | (simp [bne]; rfl)), (by first | rfl | (simp; done) | (simp [*]; done) | (simp [bne, List.isEmpty_iff]; done) | (simp [bne, List.isEmpty_iff, *]; done) | (simp [bne]; rfl)), H', ⟨by have := HJ4.out; have := HK2.out; omega⟩, by repeat (first | exact Drawn0.refl _ | apply Drawn0.step)⟩
              ·rw [if_neg c31] at H
               have c31b0 : (t104 == 3) = false := beq_eq_false_iff_ne.mpr c31
               have c31b1 : (t104 != 3) = true := bne_iff_ne.mpr c31
               by_cases c36 : x8_2 = true
               ·subst c36
                have H1 : (tree_nested.l0 k2 l0 l1 t104 true (wrap64 (x9_2 - 1))) = some r := by rw [if_pos rfl] at H; exact H
                clear H
                have H := H1
                clear H1
                have H' := Aside0.mk H
                clear H
                have p108 : 0 ≤ (x9_2 : Int) := of_decide_eq_true (by first | (with_reducible assumption) | assumption)
                have q108 : x9_2 < (l1.length : Int) := of_decide_eq_true (by first | (with_reducible assumption) | assumption)
                obtain ⟨ad108, e108, hx108_0⟩ := Kd.at_int HR1.out x9_2 p108 q108
                cases e108
                replace p108 := eq_true p108
                replace q108 := eq_true q108
                have p109 : 0 ≤ ((rd l1 x9_2) : Int) := of_decide_eq_true (by first | (with_reducible assumption) | assumption)
                have q109 : (rd l1 x9_2) < (l0.length : Int) := of_decide_eq_true (by first | (with_reducible assumption) | assumption)
                obtain ⟨ad109, A109_2, c109_2, A109_5, c109_5, e109, hx109_0, hx109_1, hx109_2, hx109_3, hx109_4, hx109_5, hl109_2, hi109_2, hl109_5, hi109_5⟩ := at_T37 HR0.out (rd l1 x9_2) p109 q109
                cases e109
                have HR109_2 := Aside0.mk hi109_2
                have HC109_2 := Aside0.mk hl109_2
                clear hi109_2 hl109_2
                have HR109_5 := Aside0.mk hi109_5
                have HC109_5 := Aside0.mk hl109_5
                clear hi109_5 hl109_5
                replace p109 := eq_true p109
                replace q109 := eq_true q109
                go_wp2_with (first | ((with_reducible refine gate_callee (f := 75) rfl ?_); refine goesL_ (some 45) rfl rfl Tryd.func75 (by kernel_rfl) rfl #[.int .u8 t104] rfl (by (try simp only [List.map_toArray, List.map_cons, List.map_nil]); first | done | rfl | (simp only [List.length_drop, List.length_take]; rfl)) ?_; (with_reducible refine (tree_ends.calls t104 true _ A19.out).mono ?_); rintro e w' ⟨rfl, ⟨nd, rfl⟩⟩; refine ⟨_, rfl, ?_⟩))
                go_roundg k2
                case measure => have := HJ4.out; have := HK2.out; omega
                case rel => exact ⟨(true), (wrap64 (x9_2 - 1)), (by first | rfl | (simp; done) | (simp [*]; done) | (simp [bne, List.isEmpty_iff]; done) | (simp [bne, List.isEmpty_iff, *]; done) | (simp [bne]; rfl)), (by first | rfl | (simp; done) | (simp [*]; done) | (simp [bne, List.isEmpty_iff]; done) | (simp [bne, List.isEmpty_iff, *]; done) | (simp [bne]; rfl)), H', ⟨by have := HJ4.out; have := HK2.out; omega⟩, by repeat (first | exact Drawn0.refl _ | apply Drawn0.step)⟩
               ·replace c36 := Bool.eq_false_iff.mpr c36
                subst c36
                have H1 : ((tree_wall.f k2 ((rd_T37 l0 (rd l1 x9_2)).f1)).bind fun t114 => (tree_nested.l0 k2 l0 l1 t104 t114 (wrap64 (x9_2 - 1)))) = some r := by rw [if_neg (show ¬ (false = true) by decide)] at H; exact H
                clear H
                have H := H1
                clear H1
                replace H := Option.bind_eq_some_iff.mp H
                obtain ⟨t114, A370, H⟩ := H
                replace H : (tree_nested.l0 k2 l0 l1 t104 t114 (wrap64 (x9_2 - 1))) = some r := H
                have A37 := Aside0.mk A370
                clear A370
                have H' := Aside0.mk H
                clear H
                have p108 : 0 ≤ (x9_2 : Int) := of_decide_eq_true (by first | (with_reducible assumption) | assumption)
                have q108 : x9_2 < (l1.length : Int) := of_decide_eq_true (by first | (with_reducible assumption) | assumption)
                obtain ⟨ad108, e108, hx108_0⟩ := Kd.at_int HR1.out x9_2 p108 q108
                cases e108
                replace p108 := eq_true p108
                replace q108 := eq_true q108
                have p109 : 0 ≤ ((rd l1 x9_2) : Int) := of_decide_eq_true (by first | (with_reducible assumption) | assumption)
                have q109 : (rd l1 x9_2) < (l0.length : Int) := of_decide_eq_true (by first | (with_reducible assumption) | assumption)
                obtain ⟨ad109, A109_2, c109_2, A109_5, c109_5, e109, hx109_0, hx109_1, hx109_2, hx109_3, hx109_4, hx109_5, hl109_2, hi109_2, hl109_5, hi109_5⟩ := at_T37 HR0.out (rd l1 x9_2) p109 q109
                cases e109
                have HR109_2 := Aside0.mk hi109_2
                have HC109_2 := Aside0.mk hl109_2
                clear hi109_2 hl109_2
                have HR109_5 := Aside0.mk hi109_5
                have HC109_5 := Aside0.mk hl109_5
                clear hi109_5 hl109_5
                replace p109 := eq_true p109
                replace q109 := eq_true q109
                go_wp2_with (first | ((with_reducible refine gate_callee (f := 75) rfl ?_); refine goesL_ (some 45) rfl rfl Tryd.func75 (by kernel_rfl) rfl #[.int .u8 t104] rfl (by (try simp only [List.map_toArray, List.map_cons, List.map_nil]); first | done | rfl | (simp only [List.length_drop, List.length_take]; rfl)) ?_; (with_reducible refine (tree_ends.calls t104 true _ A19.out).mono ?_); rintro e w' ⟨rfl, ⟨nd, rfl⟩⟩; refine ⟨_, rfl, ?_⟩) | (go_at_call 95; (with_reducible refine (tree_wall.calls k2 ((rd_T37 l0 (rd l1 x9_2)).f1) t114 _ A37.out).mono ?_); rintro e w' ⟨rfl, ⟨nd, rfl⟩⟩))
                go_roundg k2
                case measure => have := HJ4.out; have := HK2.out; omega
                case rel => exact ⟨(t114), (wrap64 (x9_2 - 1)), (by first | rfl | (simp; done) | (simp [*]; done) | (simp [bne, List.isEmpty_iff]; done) | (simp [bne, List.isEmpty_iff, *]; done) | (simp [bne]; rfl)), (by first | rfl | (simp; done) | (simp [*]; done) | (simp [bne, List.isEmpty_iff]; done) | (simp [bne, List.isEmpty_iff, *]; done) | (simp [bne]; rfl)), H', ⟨by have := HJ4.out; have := HK2.out; omega⟩, by repeat (first | exact Drawn0.refl _ | apply Drawn0.step)⟩
           ·replace c20 := Bool.eq_false_iff.mpr c20
            subst c20
            have H1 : (if t104 = 6 then (if ((rd_T37 l0 (rd l1 x9_2)).f1).toList = ([97] : List UInt8) then (some false) else (if t104 = 3 then (if ((rd_T37 l0 (rd l1 x9_2)).f1).toList = ([108, 105] : List UInt8) then (if x8_2 = true then (tree_nested.l0 k2 l0 l1 t104 true (wrap64 (x9_2 - 1))) else (some false)) else (if x8_2 = true then (tree_nested.l0 k2 l0 l1 t104 true (wrap64 (x9_2 - 1))) else ((tree_wall.f k2 ((rd_T37 l0 (rd l1 x9_2)).f1)).bind fun t115 => (tree_nested.l0 k2 l0 l1 t104 t115 (wrap64 (x9_2 - 1)))))) else (if x8_2 = true then (tree_nested.l0 k2 l0 l1 t104 true (wrap64 (x9_2 - 1))) else ((tree_wall.f k2 ((rd_T37 l0 (rd l1 x9_2)).f1)).bind fun t116 => (tree_nested.l0 k2 l0 l1 t104 t116 (wrap64 (x9_2 - 1))))))) else (if t104 = 3 then (if ((rd_T37 l0 (rd l1 x9_2)).f1).toList = ([108, 105] : List UInt8) then (if x8_2 = true then (tree_nested.l0 k2 l0 l1 t104 true (wrap64 (x9_2 - 1))) else (some false)) else (if x8_2 = true then (tree_nested.l0 k2 l0 l1 t104 true (wrap64 (x9_2 - 1))) else ((tree_wall.f k2 ((rd_T37 l0 (rd l1 x9_2)).f1)).bind fun t117 => (tree_nested.l0 k2 l0 l1 t104 t117 (wrap64 (x9_2 - 1)))))) else (if x8_2 = true then (tree_nested.l0 k2 l0 l1 t104 true (wrap64 (x9_2 - 1))) else ((tree_wall.f k2 ((rd_T37 l0 (rd l1 x9_2)).f1)).bind fun t118 => (tree_nested.l0 k2 l0 l1 t104 t118 (wrap64 (x9_2 - 1))))))) = some r := by rw [if_neg (show ¬ (false = true) by decide)] at H; exact H
            clear H
            have H := H1
            clear H1
            by_cases c38 : t104 = 6
            ·rw [if_pos c38] at H
             have c38b0 : (t104 == 6) = true := beq_iff_eq.mpr c38
             have c38b1 : (t104 != 6) = false := bne_eq_false_iff_eq.mpr c38
             clear c38
             by_cases c39 : ((rd_T37 l0 (rd l1 x9_2)).f1).toList = ([97] : List UInt8)
             ·rw [if_pos c39] at H
              have c39b0 : (((rd_T37 l0 (rd l1 x9_2)).f1).toList == ([97] : List UInt8)) = true := beq_iff_eq.mpr c39
              have c39b1 : (((rd_T37 l0 (rd l1 x9_2)).f1).toList != ([97] : List UInt8)) = false := bne_eq_false_iff_eq.mpr c39
              clear c39
              obtain rfl := Option.some.inj H
              have p108 : 0 ≤ (x9_2 : Int) := of_decide_eq_true (by first | (with_reducible assumption) | assumption)
              have q108 : x9_2 < (l1.length : Int) := of_decide_eq_true (by first | (with_reducible assumption) | assumption)
              obtain ⟨ad108, e108, hx108_0⟩ := Kd.at_int HR1.out x9_2 p108 q108
              cases e108
              replace p108 := eq_true p108
              replace q108 := eq_true q108
              have p109 : 0 ≤ ((rd l1 x9_2) : Int) := of_decide_eq_true (by first | (with_reducible assumption) | assumption)
              have q109 : (rd l1 x9_2) < (l0.length : Int) := of_decide_eq_true (by first | (with_reducible assumption) | assumption)
              obtain ⟨ad109, A109_2, c109_2, A109_5, c109_5, e109, hx109_0, hx109_1, hx109_2, hx109_3, hx109_4, hx109_5, hl109_2, hi109_2, hl109_5, hi109_5⟩ := at_T37 HR0.out (rd l1 x9_2) p109 q109
              cases e109
              have HR109_2 := Aside0.mk hi109_2
              have HC109_2 := Aside0.mk hl109_2
              clear hi109_2 hl109_2
              have HR109_5 := Aside0.mk hi109_5
              have HC109_5 := Aside0.mk hl109_5
              clear hi109_5 hl109_5
              replace p109 := eq_true p109
              replace q109 := eq_true q109
              go_wp2_with (first | ((with_reducible refine gate_callee (f := 75) rfl ?_); refine goesL_ (some 45) rfl rfl Tryd.func75 (by kernel_rfl) rfl #[.int .u8 t104] rfl (by (try simp only [List.map_toArray, List.map_cons, List.map_nil]); first | done | rfl | (simp only [List.length_drop, List.length_take]; rfl)) ?_; (with_reducible refine (tree_ends.calls t104 false _ A19.out).mono ?_); rintro e w' ⟨rfl, ⟨nd, rfl⟩⟩; refine ⟨_, rfl, ?_⟩))
              go_ret
              exact ⟨by first | rfl | (simp; done) | (simp [*]; done) | (simp [bne, List.isEmpty_iff]; done) | (simp [bne, List.isEmpty_iff, *]; done) | (simp [bne]; rfl), by repeat (first | exact Drawn0.refl _ | apply Drawn0.step)⟩
             ·rw [if_neg c39] at H
              have c39b0 : (((rd_T37 l0 (rd l1 x9_2)).f1).toList == ([97] : List UInt8)) = false := beq_eq_false_iff_ne.mpr c39
              have c39b1 : (((rd_T37 l0 (rd l1 x9_2)).f1).toList != ([97] : List UInt8)) = true := bne_iff_ne.mpr c39
              by_cases c40 : t104 = 3
              ·rw [if_pos c40] at H
               have c40b0 : (t104 == 3) = true := beq_iff_eq.mpr c40
               have c40b1 : (t104 != 3) = false := bne_eq_false_iff_eq.mpr c40
               clear c40
               by_cases c41 : ((rd_T37 l0 (rd l1 x9_2)).f1).toList = ([108, 105] : List UInt8)
               ·rw [if_pos c41] at H
                have c41b0 : (((rd_T37 l0 (rd l1 x9_2)).f1).toList == ([108, 105] : List UInt8)) = true := beq_iff_eq.mpr c41
                have c41b1 : (((rd_T37 l0 (rd l1 x9_2)).f1).toList != ([108, 105] : List UInt8)) = false := bne_eq_false_iff_eq.mpr c41
                clear c41
                by_cases c42 : x8_2 = true
                ·subst c42
                 have H1 : (tree_nested.l0 k2 l0 l1 t104 true (wrap64 (x9_2 - 1))) = some r := by rw [if_pos rfl] at H; exact H
                 clear H
                 have H := H1
                 clear H1
                 have H' := Aside0.mk H
                 clear H
                 have p108 : 0 ≤ (x9_2 : Int) := of_decide_eq_true (by first | (with_reducible assumption) | assumption)
                 have q108 : x9_2 < (l1.length : Int) := of_decide_eq_true (by first | (with_reducible assumption) | assumption)
                 obtain ⟨ad108, e108, hx108_0⟩ := Kd.at_int HR1.out x9_2 p108 q108
                 cases e108
                 replace p108 := eq_true p108
                 replace q108 := eq_true q108
                 have p109 : 0 ≤ ((rd l1 x9_2) : Int) := of_decide_eq_true (by first | (with_reducible assumption) | assumption)
                 have q109 : (rd l1 x9_2) < (l0.length : Int) := of_decide_eq_true (by first | (with_reducible assumption) | assumption)
                 obtain ⟨ad109, A109_2, c109_2, A109_5, c109_5, e109, hx109_0, hx109_1, hx109_2, hx109_3, hx109_4, hx109_5, hl109_2, hi109_2, hl109_5, hi109_5⟩ := at_T37 HR0.out (rd l1 x9_2) p109 q109
                 cases e109
                 have HR109_2 := Aside0.mk hi109_2
                 have HC109_2 := Aside0.mk hl109_2
                 clear hi109_2 hl109_2
                 have HR109_5 := Aside0.mk hi109_5
                 have HC109_5 := Aside0.mk hl109_5
                 clear hi109_5 hl109_5
                 replace p109 := eq_true p109
                 replace q109 := eq_true q109
                 go_wp2_with (first | ((with_reducible refine gate_callee (f := 75) rfl ?_); refine goesL_ (some 45) rfl rfl Tryd.func75 (by kernel_rfl) rfl #[.int .u8 t104] rfl (by (try simp only [List.map_toArray, List.map_cons, List.map_nil]); first | done | rfl | (simp only [List.length_drop, List.length_take]; rfl)) ?_; (with_reducible refine (tree_ends.calls t104 false _ A19.out).mono ?_); rintro e w' ⟨rfl, ⟨nd, rfl⟩⟩; refine ⟨_, rfl, ?_⟩))
                 go_roundg k2
                 case measure => have := HJ4.out; have := HK2.out; omega
                 case rel => exact ⟨(true), (wrap64 (x9_2 - 1)), (by first | rfl | (simp; done) | (simp [*]; done) | (simp [bne, List.isEmpty_iff]; done) | (simp [bne, List.isEmpty_iff, *]; done) | (simp [bne]; rfl)), (by first | rfl | (simp; done) | (simp [*]; done) | (simp [bne, List.isEmpty_iff]; done) | (simp [bne, List.isEmpty_iff, *]; done) | (simp [bne]; rfl)), H', ⟨by have := HJ4.out; have := HK2.out; omega⟩, by repeat (first | exact Drawn0.refl _ | apply Drawn0.step)⟩
                ·replace c42 := Bool.eq_false_iff.mpr c42
                 subst c42
                 have H1 : (some false) = some r := by rw [if_neg (show ¬ (false = true) by decide)] at H; exact H
                 clear H
                 have H := H1
                 clear H1
                 obtain rfl := Option.some.inj H
                 have p108 : 0 ≤ (x9_2 : Int) := of_decide_eq_true (by first | (with_reducible assumption) | assumption)
                 have q108 : x9_2 < (l1.length : Int) := of_decide_eq_true (by first | (with_reducible assumption) | assumption)
                 obtain ⟨ad108, e108, hx108_0⟩ := Kd.at_int HR1.out x9_2 p108 q108
                 cases e108
                 replace p108 := eq_true p108
                 replace q108 := eq_true q108
                 have p109 : 0 ≤ ((rd l1 x9_2) : Int) := of_decide_eq_true (by first | (with_reducible assumption) | assumption)
                 have q109 : (rd l1 x9_2) < (l0.length : Int) := of_decide_eq_true (by first | (with_reducible assumption) | assumption)
                 obtain ⟨ad109, A109_2, c109_2, A109_5, c109_5, e109, hx109_0, hx109_1, hx109_2, hx109_3, hx109_4, hx109_5, hl109_2, hi109_2, hl109_5, hi109_5⟩ := at_T37 HR0.out (rd l1 x9_2) p109 q109
                 cases e109
                 have HR109_2 := Aside0.mk hi109_2
                 have HC109_2 := Aside0.mk hl109_2
                 clear hi109_2 hl109_2
                 have HR109_5 := Aside0.mk hi109_5
                 have HC109_5 := Aside0.mk hl109_5
                 clear hi109_5 hl109_5
                 replace p109 := eq_true p109
                 replace q109 := eq_true q109
                 go_wp2_with (first | ((with_reducible refine gate_callee (f := 75) rfl ?_); refine goesL_ (some 45) rfl rfl Tryd.func75 (by kernel_rfl) rfl #[.int .u8 t104] rfl (by (try simp only [List.map_toArray, List.map_cons, List.map_nil]); first | done | rfl | (simp only [List.length_drop, List.length_take]; rfl)) ?_; (with_reducible refine (tree_ends.calls t104 false _ A19.out).mono ?_); rintro e w' ⟨rfl, ⟨nd, rfl⟩⟩; refine ⟨_, rfl, ?_⟩))
                 go_ret
                 exact ⟨by first | rfl | (simp; done) | (simp [*]; done) | (simp [bne, List.isEmpty_iff]; done) | (simp [bne, List.isEmpty_iff, *]; done) | (simp [bne]; rfl), by repeat (first | exact Drawn0.refl _ | apply Drawn0.step)⟩
               ·rw [if_neg c41] at H
                have c41b0 : (((rd_T37 l0 (rd l1 x9_2)).f1).toList == ([108, 105] : List UInt8)) = false := beq_eq_false_iff_ne.mpr c41
                have c41b1 : (((rd_T37 l0 (rd l1 x9_2)).f1).toList != ([108, 105] : List UInt8)) = true := bne_iff_ne.mpr c41
                by_cases c43 : x8_2 = true
                ·subst c43
                 have H1 : (tree_nested.l0 k2 l0 l1 t104 true (wrap64 (x9_2 - 1))) = some r := by rw [if_pos rfl] at H; exact H
                 clear H
                 have H := H1
                 clear H1
                 have H' := Aside0.mk H
                 clear H
                 have p108 : 0 ≤ (x9_2 : Int) := of_decide_eq_true (by first | (with_reducible assumption) | assumption)
                 have q108 : x9_2 < (l1.length : Int) := of_decide_eq_true (by first | (with_reducible assumption) | assumption)
                 obtain ⟨ad108, e108, hx108_0⟩ := Kd.at_int HR1.out x9_2 p108 q108
                 cases e108
                 replace p108 := eq_true p108
                 replace q108 := eq_true q108
                 have p109 : 0 ≤ ((rd l1 x9_2) : Int) := of_decide_eq_true (by first | (with_reducible assumption) | assumption)
                 have q109 : (rd l1 x9_2) < (l0.length : Int) := of_decide_eq_true (by first | (with_reducible assumption) | assumption)
                 obtain ⟨ad109, A109_2, c109_2, A109_5, c109_5, e109, hx109_0, hx109_1, hx109_2, hx109_3, hx109_4, hx109_5, hl109_2, hi109_2, hl109_5, hi109_5⟩ := at_T37 HR0.out (rd l1 x9_2) p109 q109
                 cases e109
                 have HR109_2 := Aside0.mk hi109_2
                 have HC109_2 := Aside0.mk hl109_2
                 clear hi109_2 hl109_2
                 have HR109_5 := Aside0.mk hi109_5
                 have HC109_5 := Aside0.mk hl109_5
                 clear hi109_5 hl109_5
                 replace p109 := eq_true p109
                 replace q109 := eq_true q109
                 go_wp2_with (first | ((with_reducible refine gate_callee (f := 75) rfl ?_); refine goesL_ (some 45) rfl rfl Tryd.func75 (by kernel_rfl) rfl #[.int .u8 t104] rfl (by (try simp only [List.map_toArray, List.map_cons, List.map_nil]); first | done | rfl | (simp only [List.length_drop, List.length_take]; rfl)) ?_; (with_reducible refine (tree_ends.calls t104 false _ A19.out).mono ?_); rintro e w' ⟨rfl, ⟨nd, rfl⟩⟩; refine ⟨_, rfl, ?_⟩))
                 go_roundg k2
                 case measure => have := HJ4.out; have := HK2.out; omega
                 case rel => exact ⟨(true), (wrap64 (x9_2 - 1)), (by first | rfl | (simp; done) | (simp [*]; done) | (simp [bne, List.isEmpty_iff]; done) | (simp [bne, List.isEmpty_iff, *]; done) | (simp [bne]; rfl)), (by first | rfl | (simp; done) | (simp [*]; done) | (simp [bne, List.isEmpty_iff]; done) | (simp [bne, List.isEmpty_iff, *]; done) | (simp [bne]; rfl)), H', ⟨by have := HJ4.out; have := HK2.out; omega⟩, by repeat (first | exact Drawn0.refl _ | apply Drawn0.step)⟩
                ·replace c43 := Bool.eq_false_iff.mpr c43
                 subst c43
                 have H1 : ((tree_wall.f k2 ((rd_T37 l0 (rd l1 x9_2)).f1)).bind fun t115 => (tree_nested.l0 k2 l0 l1 t104 t115 (wrap64 (x9_2 - 1)))) = some r := by rw [if_neg (show ¬ (false = true) by decide)] at H; exact H
                 clear H
                 have H := H1
                 clear H1
                 replace H := Option.bind_eq_some_iff.mp H
                 obtain ⟨t115, A440, H⟩ := H
                 replace H : (tree_nested.l0 k2 l0 l1 t104 t115 (wrap64 (x9_2 - 1))) = some r := H
                 have A44 := Aside0.mk A440
                 clear A440
                 have H' := Aside0.mk H
                 clear H
                 have p108 : 0 ≤ (x9_2 : Int) := of_decide_eq_true (by first | (with_reducible assumption) | assumption)
                 have q108 : x9_2 < (l1.length : Int) := of_decide_eq_true (by first | (with_reducible assumption) | assumption)
                 obtain ⟨ad108, e108, hx108_0⟩ := Kd.at_int HR1.out x9_2 p108 q108
                 cases e108
                 replace p108 := eq_true p108
                 replace q108 := eq_true q108
                 have p109 : 0 ≤ ((rd l1 x9_2) : Int) := of_decide_eq_true (by first | (with_reducible assumption) | assumption)
                 have q109 : (rd l1 x9_2) < (l0.length : Int) := of_decide_eq_true (by first | (with_reducible assumption) | assumption)
                 obtain ⟨ad109, A109_2, c109_2, A109_5, c109_5, e109, hx109_0, hx109_1, hx109_2, hx109_3, hx109_4, hx109_5, hl109_2, hi109_2, hl109_5, hi109_5⟩ := at_T37 HR0.out (rd l1 x9_2) p109 q109
                 cases e109
                 have HR109_2 := Aside0.mk hi109_2
                 have HC109_2 := Aside0.mk hl109_2
                 clear hi109_2 hl109_2
                 have HR109_5 := Aside0.mk hi109_5
                 have HC109_5 := Aside0.mk hl109_5
                 clear hi109_5 hl109_5
                 replace p109 := eq_true p109
                 replace q109 := eq_true q109
                 go_wp2_with (first | ((with_reducible refine gate_callee (f := 75) rfl ?_); refine goesL_ (some 45) rfl rfl Tryd.func75 (by kernel_rfl) rfl #[.int .u8 t104] rfl (by (try simp only [List.map_toArray, List.map_cons, List.map_nil]); first | done | rfl | (simp only [List.length_drop, List.length_take]; rfl)) ?_; (with_reducible refine (tree_ends.calls t104 false _ A19.out).mono ?_); rintro e w' ⟨rfl, ⟨nd, rfl⟩⟩; refine ⟨_, rfl, ?_⟩) | (go_at_call 95; (with_reducible refine (tree_wall.calls k2 ((rd_T37 l0 (rd l1 x9_2)).f1) t115 _ A44.out).mono ?_); rintro e w' ⟨rfl, ⟨nd, rfl⟩⟩))
                 go_roundg k2
                 case measure => have := HJ4.out; have := HK2.out; omega
                 case rel => exact ⟨(t115), (wrap64 (x9_2 - 1)), (by first | rfl | (simp; done) | (simp [*]; done) | (simp [bne, List.isEmpty_iff]; done) | (simp [bne, List.isEmpty_iff, *]; done) | (simp [bne]; rfl)), (by first | rfl | (simp; done) | (simp [*]; done) | (simp [bne, List.isEmpty_iff]; done) | (simp [bne, List.isEmpty_iff, *]; done) | (simp [bne]; rfl)), H', ⟨by have := HJ4.out; have := HK2.out; omega⟩, by repeat (first | exact Drawn0.refl _ | apply Drawn0.step)⟩
              ·rw [if_neg c40] at H
               have c40b0 : (t104 == 3) = false := beq_eq_false_iff_ne.mpr c40
               have c40b1 : (t104 != 3) = true := bne_iff_ne.mpr c40
               by_cases c45 : x8_2 = true
               ·subst c45
                have H1 : (tree_nested.l0 k2 l0 l1 t104 true (wrap64 (x9_2 - 1))) = some r := by rw [if_pos rfl] at H; exact H
                clear H
                have H := H1
                clear H1
                have H' := Aside0.mk H
                clear H
                have p108 : 0 ≤ (x9_2 : Int) := of_decide_eq_true (by first | (with_reducible assumption) | assumption)
                have q108 : x9_2 < (l1.length : Int) := of_decide_eq_true (by first | (with_reducible assumption) | assumption)
                obtain ⟨ad108, e108, hx108_0⟩ := Kd.at_int HR1.out x9_2 p108 q108
                cases e108
                replace p108 := eq_true p108
                replace q108 := eq_true q108
                have p109 : 0 ≤ ((rd l1 x9_2) : Int) := of_decide_eq_true (by first | (with_reducible assumption) | assumption)
                have q109 : (rd l1 x9_2) < (l0.length : Int) := of_decide_eq_true (by first | (with_reducible assumption) | assumption)
                obtain ⟨ad109, A109_2, c109_2, A109_5, c109_5, e109, hx109_0, hx109_1, hx109_2, hx109_3, hx109_4, hx109_5, hl109_2, hi109_2, hl109_5, hi109_5⟩ := at_T37 HR0.out (rd l1 x9_2) p109 q109
                cases e109
                have HR109_2 := Aside0.mk hi109_2
                have HC109_2 := Aside0.mk hl109_2
                clear hi109_2 hl109_2
                have HR109_5 := Aside0.mk hi109_5
                have HC109_5 := Aside0.mk hl109_5
                clear hi109_5 hl109_5
                replace p109 := eq_true p109
                replace q109 := eq_true q109
                go_wp2_with (first | ((with_reducible refine gate_callee (f := 75) rfl ?_); refine goesL_ (some 45) rfl rfl Tryd.func75 (by kernel_rfl) rfl #[.int .u8 t104] rfl (by (try simp only [List.map_toArray, List.map_cons, List.map_nil]); first | done | rfl | (simp only [List.length_drop, List.length_take]; rfl)) ?_; (with_reducible refine (tree_ends.calls t104 false _ A19.out).mono ?_); rintro e w' ⟨rfl, ⟨nd, rfl⟩⟩; refine ⟨_, rfl, ?_⟩))
                go_roundg k2
                case measure => have := HJ4.out; have := HK2.out; omega
                case rel => exact ⟨(true), (wrap64 (x9_2 - 1)), (by first | rfl | (simp; done) | (simp [*]; done) | (simp [bne, List.isEmpty_iff]; done) | (simp [bne, List.isEmpty_iff, *]; done) | (simp [bne]; rfl)), (by first | rfl | (simp; done) | (simp [*]; done) | (simp [bne, List.isEmpty_iff]; done) | (simp [bne, List.isEmpty_iff, *]; done) | (simp [bne]; rfl)), H', ⟨by have := HJ4.out; have := HK2.out; omega⟩, by repeat (first | exact Drawn0.refl _ | apply Drawn0.step)⟩
               ·replace c45 := Bool.eq_false_iff.mpr c45
                subst c45
                have H1 : ((tree_wall.f k2 ((rd_T37 l0 (rd l1 x9_2)).f1)).bind fun t116 => (tree_nested.l0 k2 l0 l1 t104 t116 (wrap64 (x9_2 - 1)))) = some r := by rw [if_neg (show ¬ (false = true) by decide)] at H; exact H
                clear H
                have H := H1
                clear H1
                replace H := Option.bind_eq_some_iff.mp H
                obtain ⟨t116, A460, H⟩ := H
                replace H : (tree_nested.l0 k2 l0 l1 t104 t116 (wrap64 (x9_2 - 1))) = some r := H
                have A46 := Aside0.mk A460
                clear A460
                have H' := Aside0.mk H
                clear H
                have p108 : 0 ≤ (x9_2 : Int) := of_decide_eq_true (by first | (with_reducible assumption) | assumption)
                have q108 : x9_2 < (l1.length : Int) := of_decide_eq_true (by first | (with_reducible assumption) | assumption)
                obtain ⟨ad108, e108, hx108_0⟩ := Kd.at_int HR1.out x9_2 p108 q108
                cases e108
                replace p108 := eq_true p108
                replace q108 := eq_true q108
                have p109 : 0 ≤ ((rd l1 x9_2) : Int) := of_decide_eq_true (by first | (with_reducible assumption) | assumption)
                have q109 : (rd l1 x9_2) < (l0.length : Int) := of_decide_eq_true (by first | (with_reducible assumption) | assumption)
                obtain ⟨ad109, A109_2, c109_2, A109_5, c109_5, e109, hx109_0, hx109_1, hx109_2, hx109_3, hx109_4, hx109_5, hl109_2, hi109_2, hl109_5, hi109_5⟩ := at_T37 HR0.out (rd l1 x9_2) p109 q109
                cases e109
                have HR109_2 := Aside0.mk hi109_2
                have HC109_2 := Aside0.mk hl109_2
                clear hi109_2 hl109_2
                have HR109_5 := Aside0.mk hi109_5
                have HC109_5 := Aside0.mk hl109_5
                clear hi109_5 hl109_5
                replace p109 := eq_true p109
                replace q109 := eq_true q109
                go_wp2_with (first | ((with_reducible refine gate_callee (f := 75) rfl ?_); refine goesL_ (some 45) rfl rfl Tryd.func75 (by kernel_rfl) rfl #[.int .u8 t104] rfl (by (try simp only [List.map_toArray, List.map_cons, List.map_nil]); first | done | rfl | (simp only [List.length_drop, List.length_take]; rfl)) ?_; (with_reducible refine (tree_ends.calls t104 false _ A19.out).mono ?_); rintro e w' ⟨rfl, ⟨nd, rfl⟩⟩; refine ⟨_, rfl, ?_⟩) | (go_at_call 95; (with_reducible refine (tree_wall.calls k2 ((rd_T37 l0 (rd l1 x9_2)).f1) t116 _ A46.out).mono ?_); rintro e w' ⟨rfl, ⟨nd, rfl⟩⟩))
                go_roundg k2
                case measure => have := HJ4.out; have := HK2.out; omega
                case rel => exact ⟨(t116), (wrap64 (x9_2 - 1)), (by first | rfl | (simp; done) | (simp [*]; done) | (simp [bne, List.isEmpty_iff]; done) | (simp [bne, List.isEmpty_iff, *]; done) | (simp [bne]; rfl)), (by first | rfl | (simp; done) | (simp [*]; done) | (simp [bne, List.isEmpty_iff]; done) | (simp [bne, List.isEmpty_iff, *]; done) | (simp [bne]; rfl)), H', ⟨by have := HJ4.out; have := HK2.out; omega⟩, by repeat (first | exact Drawn0.refl _ | apply Drawn0.step)⟩
            ·rw [if_neg c38] at H
             have c38b0 : (t104 == 6) = false := beq_eq_false_iff_ne.mpr c38
             have c38b1 : (t104 != 6) = true := bne_iff_ne.mpr c38
             by_cases c47 : t104 = 3
             ·rw [if_pos c47] at H
              have c47b0 : (t104 == 3) = true := beq_iff_eq.mpr c47
              have c47b1 : (t104 != 3) = false := bne_eq_false_iff_eq.mpr c47
              clear c47
              by_cases c48 : ((rd_T37 l0 (rd l1 x9_2)).f1).toList = ([108, 105] : List UInt8)
              ·rw [if_pos c48] at H
               have c48b0 : (((rd_T37 l0 (rd l1 x9_2)).f1).toList == ([108, 105] : List UInt8)) = true := beq_iff_eq.mpr c48
               have c48b1 : (((rd_T37 l0 (rd l1 x9_2)).f1).toList != ([108, 105] : List UInt8)) = false := bne_eq_false_iff_eq.mpr c48
               clear c48
               by_cases c49 : x8_2 = true
               ·subst c49
                have H1 : (tree_nested.l0 k2 l0 l1 t104 true (wrap64 (x9_2 - 1))) = some r := by rw [if_pos rfl] at H; exact H
                clear H
                have H := H1
                clear H1
                have H' := Aside0.mk H
                clear H
                have p108 : 0 ≤ (x9_2 : Int) := of_decide_eq_true (by first | (with_reducible assumption) | assumption)
                have q108 : x9_2 < (l1.length : Int) := of_decide_eq_true (by first | (with_reducible assumption) | assumption)
                obtain ⟨ad108, e108, hx108_0⟩ := Kd.at_int HR1.out x9_2 p108 q108
                cases e108
                replace p108 := eq_true p108
                replace q108 := eq_true q108
                have p109 : 0 ≤ ((rd l1 x9_2) : Int) := of_decide_eq_true (by first | (with_reducible assumption) | assumption)
                have q109 : (rd l1 x9_2) < (l0.length : Int) := of_decide_eq_true (by first | (with_reducible assumption) | assumption)
                obtain ⟨ad109, A109_2, c109_2, A109_5, c109_5, e109, hx109_0, hx109_1, hx109_2, hx109_3, hx109_4, hx109_5, hl109_2, hi109_2, hl109_5, hi109_5⟩ := at_T37 HR0.out (rd l1 x9_2) p109 q109
                cases e109
                have HR109_2 := Aside0.mk hi109_2
                have HC109_2 := Aside0.mk hl109_2
                clear hi109_2 hl109_2
                have HR109_5 := Aside0.mk hi109_5
                have HC109_5 := Aside0.mk hl109_5
                clear hi109_5 hl109_5
                replace p109 := eq_true p109
                replace q109 := eq_true q109
                go_wp2_with (first | ((with_reducible refine gate_callee (f := 75) rfl ?_); refine goesL_ (some 45) rfl rfl Tryd.func75 (by kernel_rfl) rfl #[.int .u8 t104] rfl (by (try simp only [List.map_toArray, List.map_cons, List.map_nil]); first | done | rfl | (simp only [List.length_drop, List.length_take]; rfl)) ?_; (with_reducible refine (tree_ends.calls t104 false _ A19.out).mono ?_); rintro e w' ⟨rfl, ⟨nd, rfl⟩⟩; refine ⟨_, rfl, ?_⟩))
                go_roundg k2
                case measure => have := HJ4.out; have := HK2.out; omega
                case rel => exact ⟨(true), (wrap64 (x9_2 - 1)), (by first | rfl | (simp; done) | (simp [*]; done) | (simp [bne, List.isEmpty_iff]; done) | (simp [bne, List.isEmpty_iff, *]; done) | (simp [bne]; rfl)), (by first | rfl | (simp; done) | (simp [*]; done) | (simp [bne, List.isEmpty_iff]; done) | (simp [bne, List.isEmpty_iff, *]; done) | (simp [bne]; rfl)), H', ⟨by have := HJ4.out; have := HK2.out; omega⟩, by repeat (first | exact Drawn0.refl _ | apply Drawn0.step)⟩
               ·replace c49 := Bool.eq_false_iff.mpr c49
                subst c49
                have H1 : (some false) = some r := by rw [if_neg (show ¬ (false = true) by decide)] at H; exact H
                clear H
                have H := H1
                clear H1
                obtain rfl := Option.some.inj H
                have p108 : 0 ≤ (x9_2 : Int) := of_decide_eq_true (by first | (with_reducible assumption) | assumption)
                have q108 : x9_2 < (l1.length : Int) := of_decide_eq_true (by first | (with_reducible assumption) | assumption)
                obtain ⟨ad108, e108, hx108_0⟩ := Kd.at_int HR1.out x9_2 p108 q108
                cases e108
                replace p108 := eq_true p108
                replace q108 := eq_true q108
                have p109 : 0 ≤ ((rd l1 x9_2) : Int) := of_decide_eq_true (by first | (with_reducible assumption) | assumption)
                have q109 : (rd l1 x9_2) < (l0.length : Int) := of_decide_eq_true (by first | (with_reducible assumption) | assumption)
                obtain ⟨ad109, A109_2, c109_2, A109_5, c109_5, e109, hx109_0, hx109_1, hx109_2, hx109_3, hx109_4, hx109_5, hl109_2, hi109_2, hl109_5, hi109_5⟩ := at_T37 HR0.out (rd l1 x9_2) p109 q109
                cases e109
                have HR109_2 := Aside0.mk hi109_2
                have HC109_2 := Aside0.mk hl109_2
                clear hi109_2 hl109_2
                have HR109_5 := Aside0.mk hi109_5
                have HC109_5 := Aside0.mk hl109_5
                clear hi109_5 hl109_5
                replace p109 := eq_true p109
                replace q109 := eq_true q109
                go_wp2_with (first | ((with_reducible refine gate_callee (f := 75) rfl ?_); refine goesL_ (some 45) rfl rfl Tryd.func75 (by kernel_rfl) rfl #[.int .u8 t104] rfl (by (try simp only [List.map_toArray, List.map_cons, List.map_nil]); first | done | rfl | (simp only [List.length_drop, List.length_take]; rfl)) ?_; (with_reducible refine (tree_ends.calls t104 false _ A19.out).mono ?_); rintro e w' ⟨rfl, ⟨nd, rfl⟩⟩; refine ⟨_, rfl, ?_⟩))
                go_ret
                exact ⟨by first | rfl | (simp; done) | (simp [*]; done) | (simp [bne, List.isEmpty_iff]; done) | (simp [bne, List.isEmpty_iff, *]; done) | (simp [bne]; rfl), by repeat (first | exact Drawn0.refl _ | apply Drawn0.step)⟩
              ·rw [if_neg c48] at H
               have c48b0 : (((rd_T37 l0 (rd l1 x9_2)).f1).toList == ([108, 105] : List UInt8)) = false := beq_eq_false_iff_ne.mpr c48
               have c48b1 : (((rd_T37 l0 (rd l1 x9_2)).f1).toList != ([108, 105] : List UInt8)) = true := bne_iff_ne.mpr c48
               by_cases c50 : x8_2 = true
               ·subst c50
                have H1 : (tree_nested.l0 k2 l0 l1 t104 true (wrap64 (x9_2 - 1))) = some r := by rw [if_pos rfl] at H; exact H
                clear H
                have H := H1
                clear H1
                have H' := Aside0.mk H
                clear H
                have p108 : 0 ≤ (x9_2 : Int) := of_decide_eq_true (by first | (with_reducible assumption) | assumption)
                have q108 : x9_2 < (l1.length : Int) := of_decide_eq_true (by first | (with_reducible assumption) | assumption)
                obtain ⟨ad108, e108, hx108_0⟩ := Kd.at_int HR1.out x9_2 p108 q108
                cases e108
                replace p108 := eq_true p108
                replace q108 := eq_true q108
                have p109 : 0 ≤ ((rd l1 x9_2) : Int) := of_decide_eq_true (by first | (with_reducible assumption) | assumption)
                have q109 : (rd l1 x9_2) < (l0.length : Int) := of_decide_eq_true (by first | (with_reducible assumption) | assumption)
                obtain ⟨ad109, A109_2, c109_2, A109_5, c109_5, e109, hx109_0, hx109_1, hx109_2, hx109_3, hx109_4, hx109_5, hl109_2, hi109_2, hl109_5, hi109_5⟩ := at_T37 HR0.out (rd l1 x9_2) p109 q109
                cases e109
                have HR109_2 := Aside0.mk hi109_2
                have HC109_2 := Aside0.mk hl109_2
                clear hi109_2 hl109_2
                have HR109_5 := Aside0.mk hi109_5
                have HC109_5 := Aside0.mk hl109_5
                clear hi109_5 hl109_5
                replace p109 := eq_true p109
                replace q109 := eq_true q109
                go_wp2_with (first | ((with_reducible refine gate_callee (f := 75) rfl ?_); refine goesL_ (some 45) rfl rfl Tryd.func75 (by kernel_rfl) rfl #[.int .u8 t104] rfl (by (try simp only [List.map_toArray, List.map_cons, List.map_nil]); first | done | rfl | (simp only [List.length_drop, List.length_take]; rfl)) ?_; (with_reducible refine (tree_ends.calls t104 false _ A19.out).mono ?_); rintro e w' ⟨rfl, ⟨nd, rfl⟩⟩; refine ⟨_, rfl, ?_⟩))
                go_roundg k2
                case measure => have := HJ4.out; have := HK2.out; omega
                case rel => exact ⟨(true), (wrap64 (x9_2 - 1)), (by first | rfl | (simp; done) | (simp [*]; done) | (simp [bne, List.isEmpty_iff]; done) | (simp [bne, List.isEmpty_iff, *]; done) | (simp [bne]; rfl)), (by first | rfl | (simp; done) | (simp [*]; done) | (simp [bne, List.isEmpty_iff]; done) | (simp [bne, List.isEmpty_iff, *]; done) | (simp [bne]; rfl)), H', ⟨by have := HJ4.out; have := HK2.out; omega⟩, by repeat (first | exact Drawn0.refl _ | apply Drawn0.step)⟩
               ·replace c50 := Bool.eq_false_iff.mpr c50
                subst c50
                have H1 : ((tree_wall.f k2 ((rd_T37 l0 (rd l1 x9_2)).f1)).bind fun t117 => (tree_nested.l0 k2 l0 l1 t104 t117 (wrap64 (x9_2 - 1)))) = some r := by rw [if_neg (show ¬ (false = true) by decide)] at H; exact H
                clear H
                have H := H1
                clear H1
                replace H := Option.bind_eq_some_iff.mp H
                obtain ⟨t117, A510, H⟩ := H
                replace H : (tree_nested.l0 k2 l0 l1 t104 t117 (wrap64 (x9_2 - 1))) = some r := H
                have A51 := Aside0.mk A510
                clear A510
                have H' := Aside0.mk H
                clear H
                have p108 : 0 ≤ (x9_2 : Int) := of_decide_eq_true (by first | (with_reducible assumption) | assumption)
                have q108 : x9_2 < (l1.length : Int) := of_decide_eq_true (by first | (with_reducible assumption) | assumption)
                obtain ⟨ad108, e108, hx108_0⟩ := Kd.at_int HR1.out x9_2 p108 q108
                cases e108
                replace p108 := eq_true p108
                replace q108 := eq_true q108
                have p109 : 0 ≤ ((rd l1 x9_2) : Int) := of_decide_eq_true (by first | (with_reducible assumption) | assumption)
                have q109 : (rd l1 x9_2) < (l0.length : Int) := of_decide_eq_true (by first | (with_reducible assumption) | assumption)
                obtain ⟨ad109, A109_2, c109_2, A109_5, c109_5, e109, hx109_0, hx109_1, hx109_2, hx109_3, hx109_4, hx109_5, hl109_2, hi109_2, hl109_5, hi109_5⟩ := at_T37 HR0.out (rd l1 x9_2) p109 q109
                cases e109
                have HR109_2 := Aside0.mk hi109_2
                have HC109_2 := Aside0.mk hl109_2
                clear hi109_2 hl109_2
                have HR109_5 := Aside0.mk hi109_5
                have HC109_5 := Aside0.mk hl109_5
                clear hi109_5 hl109_5
                replace p109 := eq_true p109
                replace q109 := eq_true q109
                go_wp2_with (first | ((with_reducible refine gate_callee (f := 75) rfl ?_); refine goesL_ (some 45) rfl rfl Tryd.func75 (by kernel_rfl) rfl #[.int .u8 t104] rfl (by (try simp only [List.map_toArray, List.map_cons, List.map_nil]); first | done | rfl | (simp only [List.length_drop, List.length_take]; rfl)) ?_; (with_reducible refine (tree_ends.calls t104 false _ A19.out).mono ?_); rintro e w' ⟨rfl, ⟨nd, rfl⟩⟩; refine ⟨_, rfl, ?_⟩) | (go_at_call 95; (with_reducible refine (tree_wall.calls k2 ((rd_T37 l0 (rd l1 x9_2)).f1) t117 _ A51.out).mono ?_); rintro e w' ⟨rfl, ⟨nd, rfl⟩⟩))
                go_roundg k2
                case measure => have := HJ4.out; have := HK2.out; omega
                case rel => exact ⟨(t117), (wrap64 (x9_2 - 1)), (by first | rfl | (simp; done) | (simp [*]; done) | (simp [bne, List.isEmpty_iff]; done) | (simp [bne, List.isEmpty_iff, *]; done) | (simp [bne]; rfl)), (by first | rfl | (simp; done) | (simp [*]; done) | (simp [bne, List.isEmpty_iff]; done) | (simp [bne, List.isEmpty_iff, *]; done) | (simp [bne]; rfl)), H', ⟨by have := HJ4.out; have := HK2.out; omega⟩, by repeat (first | exact Drawn0.refl _ | apply Drawn0.step)⟩
             ·rw [if_neg c47] at H
              have c47b0 : (t104 == 3) = false := beq_eq_false_iff_ne.mpr c47
              have c47b1 : (t104 != 3) = true := bne_iff_ne.mpr c47
              by_cases c52 : x8_2 = true
              ·subst c52
               have H1 : (tree_nested.l0 k2 l0 l1 t104 true (wrap64 (x9_2 - 1))) = some r := by rw [if_pos rfl] at H; exact H
               clear H
               have H := H1
               clear H1
               have H' := Aside0.mk H
               clear H
               have p108 : 0 ≤ (x9_2 : Int) := of_decide_eq_true (by first | (with_reducible assumption) | assumption)
               have q108 : x9_2 < (l1.length : Int) := of_decide_eq_true (by first | (with_reducible assumption) | assumption)
               obtain ⟨ad108, e108, hx108_0⟩ := Kd.at_int HR1.out x9_2 p108 q108
               cases e108
               replace p108 := eq_true p108
               replace q108 := eq_true q108
               have p109 : 0 ≤ ((rd l1 x9_2) : Int) := of_decide_eq_true (by first | (with_reducible assumption) | assumption)
               have q109 : (rd l1 x9_2) < (l0.length : Int) := of_decide_eq_true (by first | (with_reducible assumption) | assumption)
               obtain ⟨ad109, A109_2, c109_2, A109_5, c109_5, e109, hx109_0, hx109_1, hx109_2, hx109_3, hx109_4, hx109_5, hl109_2, hi109_2, hl109_5, hi109_5⟩ := at_T37 HR0.out (rd l1 x9_2) p109 q109
               cases e109
               have HR109_2 := Aside0.mk hi109_2
               have HC109_2 := Aside0.mk hl109_2
               clear hi109_2 hl109_2
               have HR109_5 := Aside0.mk hi109_5
               have HC109_5 := Aside0.mk hl109_5
               clear hi109_5 hl109_5
               replace p109 := eq_true p109
               replace q109 := eq_true q109
               go_wp2_with (first | ((with_reducible refine gate_callee (f := 75) rfl ?_); refine goesL_ (some 45) rfl rfl Tryd.func75 (by kernel_rfl) rfl #[.int .u8 t104] rfl (by (try simp only [List.map_toArray, List.map_cons, List.map_nil]); first | done | rfl | (simp only [List.length_drop, List.length_take]; rfl)) ?_; (with_reducible refine (tree_ends.calls t104 false _ A19.out).mono ?_); rintro e w' ⟨rfl, ⟨nd, rfl⟩⟩; refine ⟨_, rfl, ?_⟩))
               go_roundg k2
               case measure => have := HJ4.out; have := HK2.out; omega
               case rel => exact ⟨(true), (wrap64 (x9_2 - 1)), (by first | rfl | (simp; done) | (simp [*]; done) | (simp [bne, List.isEmpty_iff]; done) | (simp [bne, List.isEmpty_iff, *]; done) | (simp [bne]; rfl)), (by first | rfl | (simp; done) | (simp [*]; done) | (simp [bne, List.isEmpty_iff]; done) | (simp [bne, List.isEmpty_iff, *]; done) | (simp [bne]; rfl)), H', ⟨by have := HJ4.out; have := HK2.out; omega⟩, by repeat (first | exact Drawn0.refl _ | apply Drawn0.step)⟩
              ·replace c52 := Bool.eq_false_iff.mpr c52
               subst c52
               have H1 : ((tree_wall.f k2 ((rd_T37 l0 (rd l1 x9_2)).f1)).bind fun t118 => (tree_nested.l0 k2 l0 l1 t104 t118 (wrap64 (x9_2 - 1)))) = some r := by rw [if_neg (show ¬ (false = true) by decide)] at H; exact H
               clear H
               have H := H1
               clear H1
               replace H := Option.bind_eq_some_iff.mp H
               obtain ⟨t118, A530, H⟩ := H
               replace H : (tree_nested.l0 k2 l0 l1 t104 t118 (wrap64 (x9_2 - 1))) = some r := H
               have A53 := Aside0.mk A530
               clear A530
               have H' := Aside0.mk H
               clear H
               have p108 : 0 ≤ (x9_2 : Int) := of_decide_eq_true (by first | (with_reducible assumption) | assumption)
               have q108 : x9_2 < (l1.length : Int) := of_decide_eq_true (by first | (with_reducible assumption) | assumption)
               obtain ⟨ad108, e108, hx108_0⟩ := Kd.at_int HR1.out x9_2 p108 q108
               cases e108
               replace p108 := eq_true p108
               replace q108 := eq_true q108
               have p109 : 0 ≤ ((rd l1 x9_2) : Int) := of_decide_eq_true (by first | (with_reducible assumption) | assumption)
               have q109 : (rd l1 x9_2) < (l0.length : Int) := of_decide_eq_true (by first | (with_reducible assumption) | assumption)
               obtain ⟨ad109, A109_2, c109_2, A109_5, c109_5, e109, hx109_0, hx109_1, hx109_2, hx109_3, hx109_4, hx109_5, hl109_2, hi109_2, hl109_5, hi109_5⟩ := at_T37 HR0.out (rd l1 x9_2) p109 q109
               cases e109
               have HR109_2 := Aside0.mk hi109_2
               have HC109_2 := Aside0.mk hl109_2
               clear hi109_2 hl109_2
               have HR109_5 := Aside0.mk hi109_5
               have HC109_5 := Aside0.mk hl109_5
               clear hi109_5 hl109_5
               replace p109 := eq_true p109
               replace q109 := eq_true q109
               go_wp2_with (first | ((with_reducible refine gate_callee (f := 75) rfl ?_); refine goesL_ (some 45) rfl rfl Tryd.func75 (by kernel_rfl) rfl #[.int .u8 t104] rfl (by (try simp only [List.map_toArray, List.map_cons, List.map_nil]); first | done | rfl | (simp only [List.length_drop, List.length_take]; rfl)) ?_; (with_reducible refine (tree_ends.calls t104 false _ A19.out).mono ?_); rintro e w' ⟨rfl, ⟨nd, rfl⟩⟩; refine ⟨_, rfl, ?_⟩) | (go_at_call 95; (with_reducible refine (tree_wall.calls k2 ((rd_T37 l0 (rd l1 x9_2)).f1) t118 _ A53.out).mono ?_); rintro e w' ⟨rfl, ⟨nd, rfl⟩⟩))
               go_roundg k2
               case measure => have := HJ4.out; have := HK2.out; omega
               case rel => exact ⟨(t118), (wrap64 (x9_2 - 1)), (by first | rfl | (simp; done) | (simp [*]; done) | (simp [bne, List.isEmpty_iff]; done) | (simp [bne, List.isEmpty_iff, *]; done) | (simp [bne]; rfl)), (by first | rfl | (simp; done) | (simp [*]; done) | (simp [bne, List.isEmpty_iff]; done) | (simp [bne, List.isEmpty_iff, *]; done) | (simp [bne]; rfl)), H', ⟨by have := HJ4.out; have := HK2.out; omega⟩, by repeat (first | exact Drawn0.refl _ | apply Drawn0.step)⟩
          ·rw [if_neg c18] at H
           exact absurd H (by simp)
         ·rw [if_neg c17] at H
          exact absurd H (by simp)
        ·rw [if_neg c16] at H
         exact absurd H (by simp)
       ·rw [if_neg c15] at H
        exact absurd H (by simp)
      ·rw [if_neg c14] at H
       have c14b0 : decide (0 < x9_2) = false := decide_eq_false c14
       clear c14
       obtain rfl := Option.some.inj H
       go_wp2
       go_ret
       exact ⟨by first | rfl | (simp; done) | (simp [*]; done) | (simp [bne, List.isEmpty_iff]; done) | (simp [bne, List.isEmpty_iff, *]; done) | (simp [bne]; rfl), by repeat (first | exact Drawn0.refl _ | apply Drawn0.step)⟩

end Go.Proofs.YtpfhgolamlnhiaaDoor.XA

namespace Go.Proofs.YtpfhgolamlnhiaaDoor.XA
open Go.RowKit Go.Proofs.YtpfhgolamlnhiaaDoor Go.Proofs.YtpfhgolamlnhiaaDoor.XT Go.Proofs.YtpfhgolamlnhiaaDoorW.PrintWords Go.Proofs.YtpfhgolamlnhiaaDoorW.PrintLast Go.Proofs.YtpfhgolamlnhiaaDoorW.PrintMore
attribute [local go_sem] max2_int min2_int max_two min_two max_three min_three max_four min_four   -- for this text's walks alone
set_option linter.unusedVariables false
set_option linter.unusedSimpArgs false

/-! ### slices_Index_int_int: function 81 -/
def slices_Index_int_int.l0 : Nat → List Int → Int → Int → Int → Option (Int)
 | 0, _, _, _, _ => none
 | k + 1, x0, x1, x7, x8 => if x8 < x7 then (if 0 ≤ x8 then (if x8 < (x0.length : Int) then (if x1 = (rd x0 x8) then (some x8) else (slices_Index_int_int.l0 k x0 x1 x7 (wrap64 (x8 + 1)))) else (none)) else (none)) else (some (-1))
def slices_Index_int_int.f (k : Nat) (l0 : List Int) (a1 : Int) : Option (Int) := slices_Index_int_int.l0 k l0 a1 (l0.length : Int) 0
theorem slices_Index_int_int.mono_l : ∀ k, (∀ y0 y1 y2 y3, LeO (slices_Index_int_int.l0 k y0 y1 y2 y3) (slices_Index_int_int.l0 (k + 1) y0 y1 y2 y3))
 | 0 => fun _ _ _ _ r h => by simp [slices_Index_int_int.l0] at h
 | k + 1 => by
  have ih0 := slices_Index_int_int.mono_l k
  ·intro y0 y1 y2 y3
   unfold slices_Index_int_int.l0
   repeat' first
   | (with_reducible exact ih0 _ _ _ _)
   | (with_reducible exact LeO.refl _)
   | (with_reducible exact LeO.none _)
   | (with_reducible refine LeO.ite ?_ ?_)
   | (with_reducible refine LeO.bind ?_ (fun _ => ?_))
   | exact ih0 _ _ _ _
   | exact LeO.none _
   | refine LeO.ite ?_ ?_
   | refine LeO.bind ?_ (fun _ => ?_)
theorem slices_Index_int_int.mono : ∀ a0 a1 k, LeO (slices_Index_int_int.f k a0 a1) (slices_Index_int_int.f (k + 1) a0 a1) := by
 intro a0 a1 k
 have ih0 := slices_Index_int_int.mono_l k
 unfold slices_Index_int_int.f
 repeat' first
   | (with_reducible exact ih0 _ _ _ _)
   | (with_reducible exact LeO.refl _)
   | (with_reducible exact LeO.none _)
   | (with_reducible refine LeO.ite ?_ ?_)
   | (with_reducible refine LeO.bind ?_ (fun _ => ?_))
   | exact ih0 _ _ _ _
   | exact LeO.none _
   | refine LeO.ite ?_ ?_
   | refine LeO.bind ?_ (fun _ => ?_)
set_option maxHeartbeats 80000000 in
set_option maxRecDepth 100000 in
theorem slices_Index_int_int.calls (k : Nat) (A0 : Option Addr) (c0 : Nat) (l0 : List Int) (a1 : Int) (r : Int) (w : World) (hr0 : Kd.C (Kd.int .i64) w A0 l0.length l0) (hc0 : l0.length ≤ c0) (h : slices_Index_int_int.f k l0 a1 = some r) :
  Calls Tryd.prog 81 #[.slice A0 l0.length c0, .int .i64 a1] w fun e w' => e = .returned (.int .i64 r) ∧ Drawn0 w w' := by
 have HR0 := Aside0.mk hr0
 have HC0 := Aside0.mk hc0
 clear hr0 hc0
 have H : (slices_Index_int_int.l0 k l0 a1 (l0.length : Int) 0) = some r := h
 clear h
 have H' := Aside0.mk H
 clear H
 go_enter Tryd.func81, Tryd.ntmps81
 go_wp2
 go_loopg [8] k (fun kq v8 w' => ∃ (x8_1 : Int), v8 = .int .i64 x8_1 ∧ Aside0 (slices_Index_int_int.l0 kq l0 a1 (l0.length : Int) x8_1 = some r) ∧ Aside0 (kq ≤ k) ∧ Drawn0 w w')
 case atStart => exact ⟨(0), (by first | rfl | (simp; done) | (simp [*]; done) | (simp [bne, List.isEmpty_iff]; done) | (simp [bne, List.isEmpty_iff, *]; done) | (simp [bne]; rfl)), H', ⟨Nat.le_refl _⟩, by repeat (first | exact Drawn0.refl _ | apply Drawn0.step)⟩
 case round =>
  clear H'
  try clear p2
  obtain ⟨x8_1, rfl, HA, HK1, ⟨m1, rfl⟩⟩ := hrel
  cases gk with
  | zero => exact absurd HA.out (by simp [slices_Index_int_int.l0])
  | succ k1 =>
   have H := HA.out
   clear HA
   simp only [slices_Index_int_int.l0] at H
   by_cases c3 : x8_1 < (l0.length : Int)
   ·rw [if_pos c3] at H
    have c3b0 : decide (x8_1 < (l0.length : Int)) = true := decide_eq_true c3
    clear c3
    by_cases c4 : 0 ≤ x8_1
    ·rw [if_pos c4] at H
     have c4b0 : decide (0 ≤ x8_1) = true := decide_eq_true c4
     clear c4
     by_cases c5 : x8_1 < (l0.length : Int)
     ·rw [if_pos c5] at H
      have c5b0 : decide (x8_1 < (l0.length : Int)) = true := decide_eq_true c5
      clear c5
      by_cases c6 : a1 = (rd l0 x8_1)
      ·rw [if_pos c6] at H
       have c6b0 : (a1 == (rd l0 x8_1)) = true := beq_iff_eq.mpr c6
       have c6b1 : (a1 != (rd l0 x8_1)) = false := bne_eq_false_iff_eq.mpr c6
       clear c6
       obtain rfl := Option.some.inj H
       have p119 : 0 ≤ (x8_1 : Int) := of_decide_eq_true (by first | (with_reducible assumption) | assumption)
       have q119 : x8_1 < (l0.length : Int) := of_decide_eq_true (by first | (with_reducible assumption) | assumption)
       obtain ⟨ad119, e119, hx119_0⟩ := Kd.at_int HR0.out x8_1 p119 q119
       cases e119
       replace p119 := eq_true p119
       replace q119 := eq_true q119
       go_wp2
       go_ret
       exact ⟨by first | rfl | (simp; done) | (simp [*]; done) | (simp [bne, List.isEmpty_iff]; done) | (simp [bne, List.isEmpty_iff, *]; done) | (simp [bne]; rfl), by repeat (first | exact Drawn0.refl _ | apply Drawn0.step)⟩
      ·rw [if_neg c6] at H
       have c6b0 : (a1 == (rd l0 x8_1)) = false := beq_eq_false_iff_ne.mpr c6
       have c6b1 : (a1 != (rd l0 x8_1)) = true := bne_iff_ne.mpr c6
       have H' := Aside0.mk H
       clear H
       have p119 : 0 ≤ (x8_1 : Int) := of_decide_eq_true (by first | (with_reducible assumption) | assumption)
       have q119 : x8_1 < (l0.length : Int) := of_decide_eq_true (by first | (with_reducible assumption) | assumption)
       obtain ⟨ad119, e119, hx119_0⟩ := Kd.at_int HR0.out x8_1 p119 q119
       cases e119
       replace p119 := eq_true p119
       replace q119 := eq_true q119
       go_wp2
       go_roundg k1
       case measure => have := HK1.out; omega
       case rel => exact ⟨(wrap64 (x8_1 + 1)), (by first | rfl | (simp; done) | (simp [*]; done) | (simp [bne, List.isEmpty_iff]; done) | (simp [bne, List.isEmpty_iff, *]; done) | (simp [bne]; rfl)), H', ⟨by have := HK1.out; omega⟩, by repeat (first | exact Drawn0.refl _ | apply Drawn0.step)⟩
     ·rw [if_neg c5] at H
      exact absurd H (by simp)
    ·rw [if_neg c4] at H
     exact absurd H (by simp)
   ·rw [if_neg c3] at H
    have c3b0 : decide (x8_1 < (l0.length : Int)) = false := decide_eq_false c3
    clear c3
    obtain rfl := Option.some.inj H
    go_wp2
    go_ret
    exact ⟨by first | rfl | (simp; done) | (simp [*]; done) | (simp [bne, List.isEmpty_iff]; done) | (simp [bne, List.isEmpty_iff, *]; done) | (simp [bne]; rfl), by repeat (first | exact Drawn0.refl _ | apply Drawn0.step)⟩

/-! ### selvedgeref06_Escape: function 10 -/
mutual
def selvedgeref06_Escape.l0 : Nat → ByteArray → Bool → List Int → Int → Option (ByteArray)
 | 0, _, _, _, _ => none
 | k + 1, x0, x1, x5, x6 => if x6 < (x0.size : Int) then (if 0 ≤ x6 then (if (bt x0 x6) = 38 then (if x5.length + 5 < 140737488355328 then (selvedgeref06_Escape.l0 k x0 x1 (x5 ++ bytesOf (⟨#[38, 97, 109, 112, 59]⟩ : ByteArray)) (wrap64 (x6 + 1))) else (none)) else (if (bt x0 x6) = 194 then (if (wrap64 (x6 + 1)) < (x0.size : Int) then (if 0 ≤ (wrap64 (x6 + 1)) then (selvedgeref06_Escape.j1 k x0 x1 x5 x6 (bt x0 x6) ((bt x0 (wrap64 (x6 + 1))) == 160)) else (none)) else (selvedgeref06_Escape.j1 k x0 x1 x5 x6 (bt x0 x6) false)) else (selvedgeref06_Escape.j1 k x0 x1 x5 x6 (bt x0 x6) false))) else (none)) else (some (strOfNums x5))
def selvedgeref06_Escape.j1 : Nat → ByteArray → Bool → List Int → Int → Int → Bool → Option (ByteArray)
 | 0, _, _, _, _, _, _ => none
 | k + 1, x0, x1, x5, x6, x7, x26 => if x26 = true then (if x5.length + 6 < 140737488355328 then (selvedgeref06_Escape.l0 k x0 x1 (x5 ++ bytesOf (⟨#[38, 110, 98, 115, 112, 59]⟩ : ByteArray)) (wrap64 ((wrap64 (x6 + 1)) + 1))) else (none)) else (if x7 = 13 then (if x5.length + 5 < 140737488355328 then (selvedgeref06_Escape.l0 k x0 x1 (x5 ++ bytesOf (⟨#[38, 35, 49, 51, 59]⟩ : ByteArray)) (wrap64 (x6 + 1))) else (none)) else (if x7 = 60 then (selvedgeref06_Escape.j2 k x0 x1 x5 x6 x7 (!x1)) else (selvedgeref06_Escape.j2 k x0 x1 x5 x6 x7 false)))
def selvedgeref06_Escape.j2 : Nat → ByteArray → Bool → List Int → Int → Int → Bool → Option (ByteArray)
 | 0, _, _, _, _, _, _ => none
 | k + 1, x0, x1, x5, x6, x7, x52 => if x52 = true then (if x5.length + 4 < 140737488355328 then (selvedgeref06_Escape.l0 k x0 x1 (x5 ++ bytesOf (⟨#[38, 108, 116, 59]⟩ : ByteArray)) (wrap64 (x6 + 1))) else (none)) else (if x7 = 62 then (selvedgeref06_Escape.j3 k x0 x1 x5 x6 x7 (!x1)) else (selvedgeref06_Escape.j3 k x0 x1 x5 x6 x7 false))
def selvedgeref06_Escape.j3 : Nat → ByteArray → Bool → List Int → Int → Int → Bool → Option (ByteArray)
 | 0, _, _, _, _, _, _ => none
 | k + 1, x0, x1, x5, x6, x7, x61 => if x61 = true then (if x5.length + 4 < 140737488355328 then (selvedgeref06_Escape.l0 k x0 x1 (x5 ++ bytesOf (⟨#[38, 103, 116, 59]⟩ : ByteArray)) (wrap64 (x6 + 1))) else (none)) else (if x7 = 34 then (if x1 = true then (if x5.length + 6 < 140737488355328 then (selvedgeref06_Escape.l0 k x0 x1 (x5 ++ bytesOf (⟨#[38, 113, 117, 111, 116, 59]⟩ : ByteArray)) (wrap64 (x6 + 1))) else (none)) else (if x5.length < 140737488355328 then (selvedgeref06_Escape.l0 k x0 x1 (x5 ++ [x7]) (wrap64 (x6 + 1))) else (none))) else (if x5.length < 140737488355328 then (selvedgeref06_Escape.l0 k x0 x1 (x5 ++ [x7]) (wrap64 (x6 + 1))) else (none)))
end
def selvedgeref06_Escape.f (k : Nat) (a0 : ByteArray) (a1 : Bool) : Option (ByteArray) := selvedgeref06_Escape.l0 k a0 a1 ([] : List Int) 0
theorem selvedgeref06_Escape.mono_l : ∀ k, (∀ y0 y1 y2 y3, LeO (selvedgeref06_Escape.l0 k y0 y1 y2 y3) (selvedgeref06_Escape.l0 (k + 1) y0 y1 y2 y3)) ∧ (∀ y0 y1 y2 y3 y4 y5, LeO (selvedgeref06_Escape.j1 k y0 y1 y2 y3 y4 y5) (selvedgeref06_Escape.j1 (k + 1) y0 y1 y2 y3 y4 y5)) ∧ (∀ y0 y1 y2 y3 y4 y5, LeO (selvedgeref06_Escape.j2 k y0 y1 y2 y3 y4 y5) (selvedgeref06_Escape.j2 (k + 1) y0 y1 y2 y3 y4 y5)) ∧ (∀ y0 y1 y2 y3 y4 y5, LeO (selvedgeref06_Escape.j3 k y0 y1 y2 y3 y4 y5) (selvedgeref06_Escape.j3 (k + 1) y0 y1 y2 y3 y4 y5))
 | 0 => ⟨fun _ _ _ _ r h => by simp [selvedgeref06_Escape.l0] at h, fun _ _ _ _ _ _ r h => by simp [selvedgeref06_Escape.j1] at h, fun _ _ _ _ _ _ r h => by simp [selvedgeref06_Escape.j2] at h, fun _ _ _ _ _ _ r h => by simp [selvedgeref06_Escape.j3] at h⟩
 | k + 1 => by
  obtain ⟨ih0, ih1, ih2, ih3⟩ := selvedgeref06_Escape.mono_l k
  refine ⟨?_, ?_, ?_, ?_⟩
  ·intro y0 y1 y2 y3
   unfold selvedgeref06_Escape.l0
   repeat' first
   | (with_reducible exact ih0 _ _ _ _)
   | (with_reducible exact ih1 _ _ _ _ _ _)
   | (with_reducible exact ih2 _ _ _ _ _ _)
   | (with_reducible exact ih3 _ _ _ _ _ _)
   | (with_reducible exact LeO.refl _)
   | (with_reducible exact LeO.none _)
   | (with_reducible refine LeO.ite ?_ ?_)
   | (with_reducible refine LeO.bind ?_ (fun _ => ?_))
   | exact ih0 _ _ _ _
   | exact ih1 _ _ _ _ _ _
   | exact ih2 _ _ _ _ _ _
   | exact ih3 _ _ _ _ _ _
   | exact LeO.none _
   | refine LeO.ite ?_ ?_
   | refine LeO.bind ?_ (fun _ => ?_)
  ·intro y0 y1 y2 y3 y4 y5
   unfold selvedgeref06_Escape.j1
   repeat' first
   | (with_reducible exact ih0 _ _ _ _)
   | (with_reducible exact ih1 _ _ _ _ _ _)
   | (with_reducible exact ih2 _ _ _ _ _ _)
   | (with_reducible exact ih3 _ _ _ _ _ _)
   | (with_reducible exact LeO.refl _)
   | (with_reducible exact LeO.none _)
   | (with_reducible refine LeO.ite ?_ ?_)
   | (with_reducible refine LeO.bind ?_ (fun _ => ?_))
   | exact ih0 _ _ _ _
   | exact ih1 _ _ _ _ _ _
   | exact ih2 _ _ _ _ _ _
   | exact ih3 _ _ _ _ _ _
   | exact LeO.none _
   | refine LeO.ite ?_ ?_
   | refine LeO.bind ?_ (fun _ => ?_)
  ·intro y0 y1 y2 y3 y4 y5
   unfold selvedgeref06_Escape.j2
   repeat' first
   | (with_reducible exact ih0 _ _ _ _)
   | (with_reducible exact ih1 _ _ _ _ _ _)
   | (with_reducible exact ih2 _ _ _ _ _ _)
   | (with_reducible exact ih3 _ _ _ _ _ _)
   | (with_reducible exact LeO.refl _)
   | (with_reducible exact LeO.none _)
   | (with_reducible refine LeO.ite ?_ ?_)
   | (with_reducible refine LeO.bind ?_ (fun _ => ?_))
   | exact ih0 _ _ _ _
   | exact ih1 _ _ _ _ _ _
   | exact ih2 _ _ _ _ _ _
   | exact ih3 _ _ _ _ _ _
   | exact LeO.none _
   | refine LeO.ite ?_ ?_
   | refine LeO.bind ?_ (fun _ => ?_)
  ·intro y0 y1 y2 y3 y4 y5
   unfold selvedgeref06_Escape.j3
   repeat' first
   | (with_reducible exact ih0 _ _ _ _)
   | (with_reducible exact ih1 _ _ _ _ _ _)
   | (with_reducible exact ih2 _ _ _ _ _ _)
   | (with_reducible exact ih3 _ _ _ _ _ _)
   | (with_reducible exact LeO.refl _)
   | (with_reducible exact LeO.none _)
   | (with_reducible refine LeO.ite ?_ ?_)
   | (with_reducible refine LeO.bind ?_ (fun _ => ?_))
   | exact ih0 _ _ _ _
   | exact ih1 _ _ _ _ _ _
   | exact ih2 _ _ _ _ _ _
   | exact ih3 _ _ _ _ _ _
   | exact LeO.none _
   | refine LeO.ite ?_ ?_
   | refine LeO.bind ?_ (fun _ => ?_)
theorem selvedgeref06_Escape.mono : ∀ a0 a1 k, LeO (selvedgeref06_Escape.f k a0 a1) (selvedgeref06_Escape.f (k + 1) a0 a1) := by
 intro a0 a1 k
 obtain ⟨ih0, ih1, ih2, ih3⟩ := selvedgeref06_Escape.mono_l k
 unfold selvedgeref06_Escape.f
 repeat' first
   | (with_reducible exact ih0 _ _ _ _)
   | (with_reducible exact ih1 _ _ _ _ _ _)
   | (with_reducible exact ih2 _ _ _ _ _ _)
   | (with_reducible exact ih3 _ _ _ _ _ _)
   | (with_reducible exact LeO.refl _)
   | (with_reducible exact LeO.none _)
   | (with_reducible refine LeO.ite ?_ ?_)
   | (with_reducible refine LeO.bind ?_ (fun _ => ?_))
   | exact ih0 _ _ _ _
   | exact ih1 _ _ _ _ _ _
   | exact ih2 _ _ _ _ _ _
   | exact ih3 _ _ _ _ _ _
   | exact LeO.none _
   | refine LeO.ite ?_ ?_
   | refine LeO.bind ?_ (fun _ => ?_)
set_option maxHeartbeats 80000000 in
set_option maxRecDepth 100000 in
theorem selvedgeref06_Escape.calls (k : Nat) (a0 : ByteArray) (a1 : Bool) (r : ByteArray) (w : World) (h : selvedgeref06_Escape.f k a0 a1 = some r) :
  Calls Tryd.prog 10 #[.string a0, .bool a1] w fun e w' => e = .returned (.string r) ∧ Below w.heap.size w w' := by
 have HB := Aside0.mk (Below.refl w.heap.size w)
 have H : (selvedgeref06_Escape.l0 k a0 a1 ([] : List Int) 0) = some r := h
 clear h
 have H' := Aside0.mk H
 clear H
 go_enter Tryd.func10, Tryd.ntmps10
 go_wp2
 go_loopg [5, 6] k (fun kq v5 v6 w' => ∃ (x5_1 : List Int) (x6_1 : Int), v6 = .int .i64 x6_1 ∧ Aside0 (selvedgeref06_Escape.l0 kq a0 a1 x5_1 x6_1 = some r) ∧ Aside0 (kq ≤ k) ∧ Aside0 (Kd.R (Kd.int .u8) 5 w' w.heap.size (fun _ => True) v5 x5_1) ∧ Aside0 (Below w.heap.size w w'))
 case atStart => exact ⟨(([] : List Int)), (0), (by first | rfl | (simp; done) | (simp [*]; done) | (simp [bne, List.isEmpty_iff]; done) | (simp [bne, List.isEmpty_iff, *]; done) | (simp [bne]; rfl)), H', ⟨Nat.le_refl _⟩, ⟨by first | exact Kd.R_nil _ _ _ _ _ | exact Kd.N_nil _ _ _ _ _ | exact Kd.V_nil _ _ _ _ _ | exact Kd.Q_nil _ _ _ _ _ | exact Kd.S_nil _ _ _ _ _⟩, ⟨by repeat (first | (with_reducible first | exact HB.out | apply below_alloc | apply pw_below_drewN | apply below_drew1) | exact HB.out)⟩⟩
 case round =>
  clear H'
  try clear c1
  try clear p2
  obtain ⟨x5_1, x6_1, rfl, HA, HK1, HO_5, HB⟩ := hrel
  cases gk with
  | zero => exact absurd HA.out (by simp [selvedgeref06_Escape.l0])
  | succ k1 =>
   have H := HA.out
   clear HA
   simp only [selvedgeref06_Escape.l0] at H
   by_cases c3 : x6_1 < (a0.size : Int)
   ·rw [if_pos c3] at H
    have c3b0 : decide (x6_1 < (a0.size : Int)) = true := decide_eq_true c3
    clear c3
    by_cases c4 : 0 ≤ x6_1
    ·rw [if_pos c4] at H
     have c4b0 : decide (0 ≤ x6_1) = true := decide_eq_true c4
     clear c4
     by_cases c6 : (bt a0 x6_1) = 38
     ·rw [if_pos c6] at H
      have c6b0 : ((bt a0 x6_1) == 38) = true := beq_iff_eq.mpr c6
      have c6b1 : ((bt a0 x6_1) != 38) = false := bne_eq_false_iff_eq.mpr c6
      clear c6
      by_cases c7 : x5_1.length + 5 < 140737488355328
      ·rw [if_pos c7] at H
       have LMc7 := Aside0.mk c7
       clear c7
       obtain ⟨y120, hy120⟩ : ∃ y_ : List Int, y_ = (x5_1 ++ bytesOf (⟨#[38, 97, 109, 112, 59]⟩ : ByteArray)) := ⟨_, rfl⟩
       replace H : (selvedgeref06_Escape.l0 k1 a0 a1 y120 (wrap64 (x6_1 + 1))) = some r := by first | (rw [hy120]; with_reducible exact H) | (have H2_ := (Option.bind_some _ _).symm.trans H; rw [hy120]; with_reducible exact H2_) | (have H2_ := (Option.bind_some _ _).symm.trans H; with_reducible exact H2_) | with_reducible exact H | (rw [hy120]; exact H) | exact H
       have Ny120 := Aside0.mk hy120
       clear hy120
       have H' := Aside0.mk H
       clear H
       have p5 : 0 ≤ (x6_1 : Int) := of_decide_eq_true (by first | (with_reducible assumption) | assumption)
       have q5 : x6_1 < (a0.size : Int) := of_decide_eq_true (by first | (with_reducible assumption) | assumption)
       have hx5 := bt_at a0 x6_1
       replace p5 := eq_true p5
       replace q5 := eq_true q5
       go_wp2_with (first | (at_builtin; refine print_append_str (w0 := w) w.heap.size rfl (.tmp 24) _ 28 9 5 rfl Tryd.underlying28 Tryd.underlying9 info5 u5 x5_1 (⟨#[38, 97, 109, 112, 59]⟩ : ByteArray) rfl rfl ?aO ?aB ?aS ?aL ?_; (case aB => exact (by repeat (first | (with_reducible first | exact HB.out | apply below_alloc | apply pw_below_drewN | apply below_drew1) | exact HB.out))); (case aO => exact (Kd.own_of_R (by (with_reducible repeat (first | apply Kd.R_alloc | apply Kd.R_drewN | apply Kd.R_drew)); exact HO_5.out))); (case aS => exact (below_size (by repeat (first | (with_reducible first | exact HB.out | apply below_alloc | apply pw_below_drewN | apply below_drew1) | exact HB.out)))); (case aL => have := LMc7.out; first | omega | (simp [ByteArray.size]; omega)); intro v121 w8 ho0 hb hg; have ho := Kd.R_of_own (h1 := fun _ => rfl) (ok := fun _ => True) ho0 (fun _ _ => trivial); clear ho0; have hat := True.intro; rw [← Ny120.out] at ho; change Kd.R (Kd.int .u8) 5 w8 w.heap.size (fun _ => True) v121 y120 at ho; have n0_ := Aside0.mk (hb); have n1_ := Aside0.mk (ho); clear HB; clear HO_5; have HB := n0_; have HO122 := n1_; clear n0_ n1_; clear ho hb hg hat))
       go_roundg k1
       case measure => have := HK1.out; omega
       case rel => exact ⟨(y120), (wrap64 (x6_1 + 1)), (by first | rfl | (simp; done) | (simp [*]; done) | (simp [bne, List.isEmpty_iff]; done) | (simp [bne, List.isEmpty_iff, *]; done) | (simp [bne]; rfl)), H', ⟨by have := HK1.out; omega⟩, ⟨by (with_reducible repeat (first | apply Kd.R_alloc | apply Kd.R_drewN | apply Kd.R_drew)); exact HO122.out⟩, ⟨by repeat (first | (with_reducible first | exact HB.out | apply below_alloc | apply pw_below_drewN | apply below_drew1) | exact HB.out)⟩⟩
      ·rw [if_neg c7] at H
       exact absurd H (by simp)
     ·rw [if_neg c6] at H
      have c6b0 : ((bt a0 x6_1) == 38) = false := beq_eq_false_iff_ne.mpr c6
      have c6b1 : ((bt a0 x6_1) != 38) = true := bne_iff_ne.mpr c6
      have HC9 := Aside0.mk H
      clear H
      have p5 : 0 ≤ (x6_1 : Int) := of_decide_eq_true (by first | (with_reducible assumption) | assumption)
      have q5 : x6_1 < (a0.size : Int) := of_decide_eq_true (by first | (with_reducible assumption) | assumption)
      have hx5 := bt_at a0 x6_1
      replace p5 := eq_true p5
      replace q5 := eq_true q5
      go_upto_region 9 with (fail)
      go_cut [26] (fun v26 wc => ∃ (kq : Nat) (x26_8 : Bool), v26 = .bool x26_8 ∧ Aside0 (selvedgeref06_Escape.j1 kq a0 a1 x5_1 x6_1 (bt a0 x6_1) x26_8 = some r) ∧ Aside0 (kq ≤ k1) ∧ Aside0 (Kd.R (Kd.int .u8) 5 wc w.heap.size (fun _ => True) u5 x5_1) ∧ Aside0 (Below w.heap.size w wc))
      case first =>
       have H := HC9.out
       clear HC9
       by_cases c10 : (bt a0 x6_1) = 194
       ·rw [if_pos c10] at H
        have c10b0 : ((bt a0 x6_1) == 194) = true := beq_iff_eq.mpr c10
        have c10b1 : ((bt a0 x6_1) != 194) = false := bne_eq_false_iff_eq.mpr c10
        clear c10
        (first | rw [c10b0] | (simp only [i64_w, i32_w]; rw [c10b0]) | skip)
        by_cases c11 : (wrap64 (x6_1 + 1)) < (a0.size : Int)
        ·rw [if_pos c11] at H
         have c11b0 : decide ((wrap64 (x6_1 + 1)) < (a0.size : Int)) = true := decide_eq_true c11
         clear c11
         obtain ⟨ji12, hji12⟩ : ∃ j_ : Int, (wrap64 (x6_1 + 1)) = j_ := ⟨_, rfl⟩
         replace H : (if 0 ≤ (ji12) then (selvedgeref06_Escape.j1 k1 a0 a1 x5_1 x6_1 (bt a0 x6_1) ((bt a0 (ji12)) == 160)) else (none)) = some r := by first | (rw [hji12] at H; exact H) | (simp only [hji12] at H ⊢; exact H)
         (try rw [hji12] at c11b0)
         have hji12w : (IntKind.i64.wrap (x6_1 + 1)) = ji12 := (i64_w _).trans hji12
         by_cases c13 : 0 ≤ (ji12)
         ·rw [if_pos c13] at H
          have c13b0 : decide (0 ≤ (ji12)) = true := decide_eq_true c13
          clear c13
          have H' := Aside0.mk H
          clear H
          have p14 : 0 ≤ ((ji12) : Int) := of_decide_eq_true (by first | (with_reducible assumption) | assumption)
          have q14 : (ji12) < (a0.size : Int) := of_decide_eq_true (by first | (with_reducible assumption) | assumption)
          have hx14 := bt_at a0 (ji12)
          replace p14 := eq_true p14
          replace q14 := eq_true q14
          go_wp2
          go_meet
          case rel => exact ⟨_, (((bt a0 (ji12)) == 160)), (by first | rfl | (simp; done) | (simp only [← hji12] <;> (first | rfl | simp)) | (simp [*]; done)), H', ⟨by have := HK1.out; first | omega | exact Nat.le_refl _⟩, ⟨by (with_reducible repeat (first | apply Kd.R_alloc | apply Kd.R_drewN | apply Kd.R_drew)); exact HO_5.out⟩, ⟨by repeat (first | (with_reducible first | exact HB.out | apply below_alloc | apply pw_below_drewN | apply below_drew1) | exact HB.out)⟩⟩
         ·rw [if_neg c13] at H
          exact absurd H (by simp)
        ·rw [if_neg c11] at H
         have c11b0 : decide ((wrap64 (x6_1 + 1)) < (a0.size : Int)) = false := decide_eq_false c11
         clear c11
         have H' := Aside0.mk H
         clear H
         go_wp2
         go_meet
         case rel => exact ⟨_, (false), (by first | rfl | (simp; done) | (simp [*]; done) | (simp [bne, List.isEmpty_iff]; done) | (simp [bne, List.isEmpty_iff, *]; done) | (simp [bne]; rfl)), H', ⟨by have := HK1.out; first | omega | exact Nat.le_refl _⟩, ⟨by (with_reducible repeat (first | apply Kd.R_alloc | apply Kd.R_drewN | apply Kd.R_drew)); exact HO_5.out⟩, ⟨by repeat (first | (with_reducible first | exact HB.out | apply below_alloc | apply pw_below_drewN | apply below_drew1) | exact HB.out)⟩⟩
       ·rw [if_neg c10] at H
        have c10b0 : ((bt a0 x6_1) == 194) = false := beq_eq_false_iff_ne.mpr c10
        have c10b1 : ((bt a0 x6_1) != 194) = true := bne_iff_ne.mpr c10
        (first | rw [c10b0] | (simp only [i64_w, i32_w]; rw [c10b0]) | skip)
        have H' := Aside0.mk H
        clear H
        go_wp2
        go_meet
        case rel => exact ⟨_, (false), (by first | rfl | (simp; done) | (simp [*]; done) | (simp [bne, List.isEmpty_iff]; done) | (simp [bne, List.isEmpty_iff, *]; done) | (simp [bne]; rfl)), H', ⟨by have := HK1.out; first | omega | exact Nat.le_refl _⟩, ⟨by (with_reducible repeat (first | apply Kd.R_alloc | apply Kd.R_drewN | apply Kd.R_drew)); exact HO_5.out⟩, ⟨by repeat (first | (with_reducible first | exact HB.out | apply below_alloc | apply pw_below_drewN | apply below_drew1) | exact HB.out)⟩⟩
      case rest =>
       clear HC9
       try clear c1
       try clear p1
       try clear q1
       try clear hx1
       try clear p2
       try clear c3
       try clear c3b0
       try clear c4
       try clear c4b0
       try clear p5
       try clear q5
       try clear hx5
       try clear c6
       try clear c6b0
       try clear c6b1
       try clear p6
       try clear c7
       try clear c10
       try clear c10b0
       try clear c10b1
       try clear c11
       try clear c11b0
       try clear c13
       try clear c13b0
       try clear p14
       try clear q14
       try clear hx14
       try clear p14
       try clear p2
       try clear p5
       try clear q14
       try clear q5
       obtain ⟨kq, x26_8, rfl, HA, HJ8, HO_5, HB⟩ := hcut
       cases kq with
       | zero => exact absurd HA.out (by simp [selvedgeref06_Escape.j1])
       | succ kj8 =>
        have H := HA.out
        clear HA
        simp only [selvedgeref06_Escape.j1] at H
        by_cases c15 : x26_8 = true
        ·subst c15
         have H1 : (if x5_1.length + 6 < 140737488355328 then (selvedgeref06_Escape.l0 kj8 a0 a1 (x5_1 ++ bytesOf (⟨#[38, 110, 98, 115, 112, 59]⟩ : ByteArray)) (wrap64 ((wrap64 (x6_1 + 1)) + 1))) else (none)) = some r := by rw [if_pos rfl] at H; exact H
         clear H
         have H := H1
         clear H1
         by_cases c16 : x5_1.length + 6 < 140737488355328
         ·rw [if_pos c16] at H
          have LMc16 := Aside0.mk c16
          clear c16
          obtain ⟨y123, hy123⟩ : ∃ y_ : List Int, y_ = (x5_1 ++ bytesOf (⟨#[38, 110, 98, 115, 112, 59]⟩ : ByteArray)) := ⟨_, rfl⟩
          replace H : (selvedgeref06_Escape.l0 kj8 a0 a1 y123 (wrap64 ((wrap64 (x6_1 + 1)) + 1))) = some r := by first | (rw [hy123]; with_reducible exact H) | (have H2_ := (Option.bind_some _ _).symm.trans H; rw [hy123]; with_reducible exact H2_) | (have H2_ := (Option.bind_some _ _).symm.trans H; with_reducible exact H2_) | with_reducible exact H | (rw [hy123]; exact H) | exact H
          have Ny123 := Aside0.mk hy123
          clear hy123
          have H' := Aside0.mk H
          clear H
          go_wp2_with (first | (at_builtin; refine print_append_str (w0 := w) w.heap.size rfl (.tmp 43) _ 28 9 5 rfl Tryd.underlying28 Tryd.underlying9 info5 u5 x5_1 (⟨#[38, 110, 98, 115, 112, 59]⟩ : ByteArray) rfl rfl ?aO ?aB ?aS ?aL ?_; (case aB => exact (by repeat (first | (with_reducible first | exact HB.out | apply below_alloc | apply pw_below_drewN | apply below_drew1) | exact HB.out))); (case aO => exact (Kd.own_of_R (by (with_reducible repeat (first | apply Kd.R_alloc | apply Kd.R_drewN | apply Kd.R_drew)); exact HO_5.out))); (case aS => exact (below_size (by repeat (first | (with_reducible first | exact HB.out | apply below_alloc | apply pw_below_drewN | apply below_drew1) | exact HB.out)))); (case aL => have := LMc16.out; first | omega | (simp [ByteArray.size]; omega)); intro v124 w17 ho0 hb hg; have ho := Kd.R_of_own (h1 := fun _ => rfl) (ok := fun _ => True) ho0 (fun _ _ => trivial); clear ho0; have hat := True.intro; rw [← Ny123.out] at ho; change Kd.R (Kd.int .u8) 5 w17 w.heap.size (fun _ => True) v124 y123 at ho; have n0_ := Aside0.mk (hb); have n1_ := Aside0.mk (ho); clear HB; clear HO_5; have HB := n0_; have HO125 := n1_; clear n0_ n1_; clear ho hb hg hat))
          go_roundg kj8
          case measure => have := HK1.out; have := HJ8.out; omega
          case rel => exact ⟨(y123), (wrap64 ((wrap64 (x6_1 + 1)) + 1)), (by first | rfl | (simp; done) | (simp [*]; done) | (simp [bne, List.isEmpty_iff]; done) | (simp [bne, List.isEmpty_iff, *]; done) | (simp [bne]; rfl)), H', ⟨by have := HK1.out; have := HJ8.out; omega⟩, ⟨by (with_reducible repeat (first | apply Kd.R_alloc | apply Kd.R_drewN | apply Kd.R_drew)); exact HO125.out⟩, ⟨by repeat (first | (with_reducible first | exact HB.out | apply below_alloc | apply pw_below_drewN | apply below_drew1) | exact HB.out)⟩⟩
         ·rw [if_neg c16] at H
          exact absurd H (by simp)
        ·replace c15 := Bool.eq_false_iff.mpr c15
         subst c15
         have H1 : (if (bt a0 x6_1) = 13 then (if x5_1.length + 5 < 140737488355328 then (selvedgeref06_Escape.l0 kj8 a0 a1 (x5_1 ++ bytesOf (⟨#[38, 35, 49, 51, 59]⟩ : ByteArray)) (wrap64 (x6_1 + 1))) else (none)) else (if (bt a0 x6_1) = 60 then (selvedgeref06_Escape.j2 kj8 a0 a1 x5_1 x6_1 (bt a0 x6_1) (!a1)) else (selvedgeref06_Escape.j2 kj8 a0 a1 x5_1 x6_1 (bt a0 x6_1) false))) = some r := by rw [if_neg (show ¬ (false = true) by decide)] at H; exact H
         clear H
         have H := H1
         clear H1
         by_cases c18 : (bt a0 x6_1) = 13
         ·rw [if_pos c18] at H
          have c18b0 : ((bt a0 x6_1) == 13) = true := beq_iff_eq.mpr c18
          have c18b1 : ((bt a0 x6_1) != 13) = false := bne_eq_false_iff_eq.mpr c18
          clear c18
          by_cases c19 : x5_1.length + 5 < 140737488355328
          ·rw [if_pos c19] at H
           have LMc19 := Aside0.mk c19
           clear c19
           obtain ⟨y126, hy126⟩ : ∃ y_ : List Int, y_ = (x5_1 ++ bytesOf (⟨#[38, 35, 49, 51, 59]⟩ : ByteArray)) := ⟨_, rfl⟩
           replace H : (selvedgeref06_Escape.l0 kj8 a0 a1 y126 (wrap64 (x6_1 + 1))) = some r := by first | (rw [hy126]; with_reducible exact H) | (have H2_ := (Option.bind_some _ _).symm.trans H; rw [hy126]; with_reducible exact H2_) | (have H2_ := (Option.bind_some _ _).symm.trans H; with_reducible exact H2_) | with_reducible exact H | (rw [hy126]; exact H) | exact H
           have Ny126 := Aside0.mk hy126
           clear hy126
           have H' := Aside0.mk H
           clear H
           go_wp2_with (first | (at_builtin; refine print_append_str (w0 := w) w.heap.size rfl (.tmp 50) _ 28 9 5 rfl Tryd.underlying28 Tryd.underlying9 info5 u5 x5_1 (⟨#[38, 35, 49, 51, 59]⟩ : ByteArray) rfl rfl ?aO ?aB ?aS ?aL ?_; (case aB => exact (by repeat (first | (with_reducible first | exact HB.out | apply below_alloc | apply pw_below_drewN | apply below_drew1) | exact HB.out))); (case aO => exact (Kd.own_of_R (by (with_reducible repeat (first | apply Kd.R_alloc | apply Kd.R_drewN | apply Kd.R_drew)); exact HO_5.out))); (case aS => exact (below_size (by repeat (first | (with_reducible first | exact HB.out | apply below_alloc | apply pw_below_drewN | apply below_drew1) | exact HB.out)))); (case aL => have := LMc19.out; first | omega | (simp [ByteArray.size]; omega)); intro v127 w20 ho0 hb hg; have ho := Kd.R_of_own (h1 := fun _ => rfl) (ok := fun _ => True) ho0 (fun _ _ => trivial); clear ho0; have hat := True.intro; rw [← Ny126.out] at ho; change Kd.R (Kd.int .u8) 5 w20 w.heap.size (fun _ => True) v127 y126 at ho; have n0_ := Aside0.mk (hb); have n1_ := Aside0.mk (ho); clear HB; clear HO_5; have HB := n0_; have HO128 := n1_; clear n0_ n1_; clear ho hb hg hat))
           go_roundg kj8
           case measure => have := HK1.out; have := HJ8.out; omega
           case rel => exact ⟨(y126), (wrap64 (x6_1 + 1)), (by first | rfl | (simp; done) | (simp [*]; done) | (simp [bne, List.isEmpty_iff]; done) | (simp [bne, List.isEmpty_iff, *]; done) | (simp [bne]; rfl)), H', ⟨by have := HK1.out; have := HJ8.out; omega⟩, ⟨by (with_reducible repeat (first | apply Kd.R_alloc | apply Kd.R_drewN | apply Kd.R_drew)); exact HO128.out⟩, ⟨by repeat (first | (with_reducible first | exact HB.out | apply below_alloc | apply pw_below_drewN | apply below_drew1) | exact HB.out)⟩⟩
          ·rw [if_neg c19] at H
           exact absurd H (by simp)
         ·rw [if_neg c18] at H
          have c18b0 : ((bt a0 x6_1) == 13) = false := beq_eq_false_iff_ne.mpr c18
          have c18b1 : ((bt a0 x6_1) != 13) = true := bne_iff_ne.mpr c18
          have HC21 := Aside0.mk H
          clear H
          go_upto_region 14 with (fail)
          go_cut [52] (fun v52 wc => ∃ (kq : Nat) (x52_20 : Bool), v52 = .bool x52_20 ∧ Aside0 (selvedgeref06_Escape.j2 kq a0 a1 x5_1 x6_1 (bt a0 x6_1) x52_20 = some r) ∧ Aside0 (kq ≤ kj8) ∧ Aside0 (Kd.R (Kd.int .u8) 5 wc w.heap.size (fun _ => True) u5 x5_1) ∧ Aside0 (Below w.heap.size w wc))
          case first =>
           have H := HC21.out
           clear HC21
           by_cases c22 : (bt a0 x6_1) = 60
           ·rw [if_pos c22] at H
            have c22b0 : ((bt a0 x6_1) == 60) = true := beq_iff_eq.mpr c22
            have c22b1 : ((bt a0 x6_1) != 60) = false := bne_eq_false_iff_eq.mpr c22
            clear c22
            (first | rw [c22b0] | (simp only [i64_w, i32_w]; rw [c22b0]) | skip)
            have H' := Aside0.mk H
            clear H
            go_wp2
            go_meet
            case rel => exact ⟨_, (!a1), (by first | rfl | (simp; done) | (simp [*]; done) | (simp [bne, List.isEmpty_iff]; done) | (simp [bne, List.isEmpty_iff, *]; done) | (simp [bne]; rfl)), H', ⟨by have := HK1.out; have := HJ8.out; first | omega | exact Nat.le_refl _⟩, ⟨by (with_reducible repeat (first | apply Kd.R_alloc | apply Kd.R_drewN | apply Kd.R_drew)); exact HO_5.out⟩, ⟨by repeat (first | (with_reducible first | exact HB.out | apply below_alloc | apply pw_below_drewN | apply below_drew1) | exact HB.out)⟩⟩
           ·rw [if_neg c22] at H
            have c22b0 : ((bt a0 x6_1) == 60) = false := beq_eq_false_iff_ne.mpr c22
            have c22b1 : ((bt a0 x6_1) != 60) = true := bne_iff_ne.mpr c22
            (first | rw [c22b0] | (simp only [i64_w, i32_w]; rw [c22b0]) | skip)
            have H' := Aside0.mk H
            clear H
            go_wp2
            go_meet
            case rel => exact ⟨_, (false), (by first | rfl | (simp; done) | (simp [*]; done) | (simp [bne, List.isEmpty_iff]; done) | (simp [bne, List.isEmpty_iff, *]; done) | (simp [bne]; rfl)), H', ⟨by have := HK1.out; have := HJ8.out; first | omega | exact Nat.le_refl _⟩, ⟨by (with_reducible repeat (first | apply Kd.R_alloc | apply Kd.R_drewN | apply Kd.R_drew)); exact HO_5.out⟩, ⟨by repeat (first | (with_reducible first | exact HB.out | apply below_alloc | apply pw_below_drewN | apply below_drew1) | exact HB.out)⟩⟩
          case rest =>
           clear HC21
           try clear c1
           try clear p1
           try clear q1
           try clear hx1
           try clear c2
           try clear p2
           try clear c3
           try clear c3b0
           try clear c4
           try clear c4b0
           try clear p5
           try clear q5
           try clear hx5
           try clear c6
           try clear c6b0
           try clear c6b1
           try clear p6
           try clear c7
           try clear c10
           try clear c10b0
           try clear c10b1
           try clear c11
           try clear c11b0
           try clear c13
           try clear c13b0
           try clear p14
           try clear q14
           try clear hx14
           try clear c15
           try clear c16
           try clear c18
           try clear c18b0
           try clear c18b1
           try clear c19
           try clear c22
           try clear c22b0
           try clear c22b1
           try clear p1
           try clear p14
           try clear p2
           try clear p5
           try clear p6
           try clear q1
           try clear q14
           try clear q5
           obtain ⟨kq, x52_20, rfl, HA, HJ20, HO_5, HB⟩ := hcut
           cases kq with
           | zero => exact absurd HA.out (by simp [selvedgeref06_Escape.j2])
           | succ kj20 =>
            have H := HA.out
            clear HA
            simp only [selvedgeref06_Escape.j2] at H
            by_cases c23 : x52_20 = true
            ·subst c23
             have H1 : (if x5_1.length + 4 < 140737488355328 then (selvedgeref06_Escape.l0 kj20 a0 a1 (x5_1 ++ bytesOf (⟨#[38, 108, 116, 59]⟩ : ByteArray)) (wrap64 (x6_1 + 1))) else (none)) = some r := by rw [if_pos rfl] at H; exact H
             clear H
             have H := H1
             clear H1
             by_cases c24 : x5_1.length + 4 < 140737488355328
             ·rw [if_pos c24] at H
              have LMc24 := Aside0.mk c24
              clear c24
              obtain ⟨y129, hy129⟩ : ∃ y_ : List Int, y_ = (x5_1 ++ bytesOf (⟨#[38, 108, 116, 59]⟩ : ByteArray)) := ⟨_, rfl⟩
              replace H : (selvedgeref06_Escape.l0 kj20 a0 a1 y129 (wrap64 (x6_1 + 1))) = some r := by first | (rw [hy129]; with_reducible exact H) | (have H2_ := (Option.bind_some _ _).symm.trans H; rw [hy129]; with_reducible exact H2_) | (have H2_ := (Option.bind_some _ _).symm.trans H; with_reducible exact H2_) | with_reducible exact H | (rw [hy129]; exact H) | exact H
              have Ny129 := Aside0.mk hy129
              clear hy129
              have H' := Aside0.mk H
              clear H
              go_wp2_with (first | (at_builtin; refine print_append_str (w0 := w) w.heap.size rfl (.tmp 59) _ 28 9 5 rfl Tryd.underlying28 Tryd.underlying9 info5 u5 x5_1 (⟨#[38, 108, 116, 59]⟩ : ByteArray) rfl rfl ?aO ?aB ?aS ?aL ?_; (case aB => exact (by repeat (first | (with_reducible first | exact HB.out | apply below_alloc | apply pw_below_drewN | apply below_drew1) | exact HB.out))); (case aO => exact (Kd.own_of_R (by (with_reducible repeat (first | apply Kd.R_alloc | apply Kd.R_drewN | apply Kd.R_drew)); exact HO_5.out))); (case aS => exact (below_size (by repeat (first | (with_reducible first | exact HB.out | apply below_alloc | apply pw_below_drewN | apply below_drew1) | exact HB.out)))); (case aL => have := LMc24.out; first | omega | (simp [ByteArray.size]; omega)); intro v130 w25 ho0 hb hg; have ho := Kd.R_of_own (h1 := fun _ => rfl) (ok := fun _ => True) ho0 (fun _ _ => trivial); clear ho0; have hat := True.intro; rw [← Ny129.out] at ho; change Kd.R (Kd.int .u8) 5 w25 w.heap.size (fun _ => True) v130 y129 at ho; have n0_ := Aside0.mk (hb); have n1_ := Aside0.mk (ho); clear HB; clear HO_5; have HB := n0_; have HO131 := n1_; clear n0_ n1_; clear ho hb hg hat))
              go_roundg kj20
              case measure => have := HK1.out; have := HJ8.out; have := HJ20.out; omega
              case rel => exact ⟨(y129), (wrap64 (x6_1 + 1)), (by first | rfl | (simp; done) | (simp [*]; done) | (simp [bne, List.isEmpty_iff]; done) | (simp [bne, List.isEmpty_iff, *]; done) | (simp [bne]; rfl)), H', ⟨by have := HK1.out; have := HJ8.out; have := HJ20.out; omega⟩, ⟨by (with_reducible repeat (first | apply Kd.R_alloc | apply Kd.R_drewN | apply Kd.R_drew)); exact HO131.out⟩, ⟨by repeat (first | (with_reducible first | exact HB.out | apply below_alloc | apply pw_below_drewN | apply below_drew1) | exact HB.out)⟩⟩
             ·rw [if_neg c24] at H
              exact absurd H (by simp)
            ·replace c23 := Bool.eq_false_iff.mpr c23
             subst c23
             have H1 : (if (bt a0 x6_1) = 62 then (selvedgeref06_Escape.j3 kj20 a0 a1 x5_1 x6_1 (bt a0 x6_1) (!a1)) else (selvedgeref06_Escape.j3 kj20 a0 a1 x5_1 x6_1 (bt a0 x6_1) false)) = some r := by rw [if_neg (show ¬ (false = true) by decide)] at H; exact H
             clear H
             have H := H1
             clear H1
             have HC26 := Aside0.mk H
             clear H
             go_upto_region 16 with (fail)
             go_cut [61] (fun v61 wc => ∃ (kq : Nat) (x61_25 : Bool), v61 = .bool x61_25 ∧ Aside0 (selvedgeref06_Escape.j3 kq a0 a1 x5_1 x6_1 (bt a0 x6_1) x61_25 = some r) ∧ Aside0 (kq ≤ kj20) ∧ Aside0 (Kd.R (Kd.int .u8) 5 wc w.heap.size (fun _ => True) u5 x5_1) ∧ Aside0 (Below w.heap.size w wc))
             case first =>
              have H := HC26.out
              clear HC26
              by_cases c27 : (bt a0 x6_1) = 62
              ·rw [if_pos c27] at H
               have c27b0 : ((bt a0 x6_1) == 62) = true := beq_iff_eq.mpr c27
               have c27b1 : ((bt a0 x6_1) != 62) = false := bne_eq_false_iff_eq.mpr c27
               clear c27
               (first | rw [c27b0] | (simp only [i64_w, i32_w]; rw [c27b0]) | skip)
               have H' := Aside0.mk H
               clear H
               go_wp2
               go_meet
               case rel => exact ⟨_, (!a1), (by first | rfl | (simp; done) | (simp [*]; done) | (simp [bne, List.isEmpty_iff]; done) | (simp [bne, List.isEmpty_iff, *]; done) | (simp [bne]; rfl)), H', ⟨by have := HK1.out; have := HJ8.out; have := HJ20.out; first | omega | exact Nat.le_refl _⟩, ⟨by (with_reducible repeat (first | apply Kd.R_alloc | apply Kd.R_drewN | apply Kd.R_drew)); exact HO_5.out⟩, ⟨by repeat (first | (with_reducible first | exact HB.out | apply below_alloc | apply pw_below_drewN | apply below_drew1) | exact HB.out)⟩⟩
              ·rw [if_neg c27] at H
               have c27b0 : ((bt a0 x6_1) == 62) = false := beq_eq_false_iff_ne.mpr c27
               have c27b1 : ((bt a0 x6_1) != 62) = true := bne_iff_ne.mpr c27
               (first | rw [c27b0] | (simp only [i64_w, i32_w]; rw [c27b0]) | skip)
               have H' := Aside0.mk H
               clear H
               go_wp2
               go_meet
               case rel => exact ⟨_, (false), (by first | rfl | (simp; done) | (simp [*]; done) | (simp [bne, List.isEmpty_iff]; done) | (simp [bne, List.isEmpty_iff, *]; done) | (simp [bne]; rfl)), H', ⟨by have := HK1.out; have := HJ8.out; have := HJ20.out; first | omega | exact Nat.le_refl _⟩, ⟨by (with_reducible repeat (first | apply Kd.R_alloc | apply Kd.R_drewN | apply Kd.R_drew)); exact HO_5.out⟩, ⟨by repeat (first | (with_reducible first | exact HB.out | apply below_alloc | apply pw_below_drewN | apply below_drew1) | exact HB.out)⟩⟩
             case rest =>
              clear HC26
              try clear c1
              try clear p1
              try clear q1
              try clear hx1
              try clear c2
              try clear p2
              try clear c3
              try clear c3b0
              try clear c4
              try clear c4b0
              try clear p5
              try clear q5
              try clear hx5
              try clear c6
              try clear c6b0
              try clear c6b1
              try clear p6
              try clear c7
              try clear c10
              try clear c10b0
              try clear c10b1
              try clear c11
              try clear c11b0
              try clear c13
              try clear c13b0
              try clear p14
              try clear q14
              try clear hx14
              try clear c15
              try clear c16
              try clear c18
              try clear c18b0
              try clear c18b1
              try clear c19
              try clear c22
              try clear c22b0
              try clear c22b1
              try clear c23
              try clear c24
              try clear c27
              try clear c27b0
              try clear c27b1
              try clear p1
              try clear p14
              try clear p2
              try clear p5
              try clear p6
              try clear q1
              try clear q14
              try clear q5
              obtain ⟨kq, x61_25, rfl, HA, HJ25, HO_5, HB⟩ := hcut
              cases kq with
              | zero => exact absurd HA.out (by simp [selvedgeref06_Escape.j3])
              | succ kj25 =>
               have H := HA.out
               clear HA
               simp only [selvedgeref06_Escape.j3] at H
               by_cases c28 : x61_25 = true
               ·subst c28
                have H1 : (if x5_1.length + 4 < 140737488355328 then (selvedgeref06_Escape.l0 kj25 a0 a1 (x5_1 ++ bytesOf (⟨#[38, 103, 116, 59]⟩ : ByteArray)) (wrap64 (x6_1 + 1))) else (none)) = some r := by rw [if_pos rfl] at H; exact H
                clear H
                have H := H1
                clear H1
                by_cases c29 : x5_1.length + 4 < 140737488355328
                ·rw [if_pos c29] at H
                 have LMc29 := Aside0.mk c29
                 clear c29
                 obtain ⟨y132, hy132⟩ : ∃ y_ : List Int, y_ = (x5_1 ++ bytesOf (⟨#[38, 103, 116, 59]⟩ : ByteArray)) := ⟨_, rfl⟩
                 replace H : (selvedgeref06_Escape.l0 kj25 a0 a1 y132 (wrap64 (x6_1 + 1))) = some r := by first | (rw [hy132]; with_reducible exact H) | (have H2_ := (Option.bind_some _ _).symm.trans H; rw [hy132]; with_reducible exact H2_) | (have H2_ := (Option.bind_some _ _).symm.trans H; with_reducible exact H2_) | with_reducible exact H | (rw [hy132]; exact H) | exact H
                 have Ny132 := Aside0.mk hy132
                 clear hy132
                 have H' := Aside0.mk H
                 clear H
                 go_wp2_with (first | (at_builtin; refine print_append_str (w0 := w) w.heap.size rfl (.tmp 68) _ 28 9 5 rfl Tryd.underlying28 Tryd.underlying9 info5 u5 x5_1 (⟨#[38, 103, 116, 59]⟩ : ByteArray) rfl rfl ?aO ?aB ?aS ?aL ?_; (case aB => exact (by repeat (first | (with_reducible first | exact HB.out | apply below_alloc | apply pw_below_drewN | apply below_drew1) | exact HB.out))); (case aO => exact (Kd.own_of_R (by (with_reducible repeat (first | apply Kd.R_alloc | apply Kd.R_drewN | apply Kd.R_drew)); exact HO_5.out))); (case aS => exact (below_size (by repeat (first | (with_reducible first | exact HB.out | apply below_alloc | apply pw_below_drewN | apply below_drew1) | exact HB.out)))); (case aL => have := LMc29.out; first | omega | (simp [ByteArray.size]; omega)); intro v133 w30 ho0 hb hg; have ho := Kd.R_of_own (h1 := fun _ => rfl) (ok := fun _ => True) ho0 (fun _ _ => trivial); clear ho0; have hat := True.intro; rw [← Ny132.out] at ho; change Kd.R (Kd.int .u8) 5 w30 w.heap.size (fun _ => True) v133 y132 at ho; have n0_ := Aside0.mk (hb); have n1_ := Aside0.mk (ho); clear HB; clear HO_5; have HB := n0_; have HO134 := n1_; clear n0_ n1_; clear ho hb hg hat))
                 go_roundg kj25
                 case measure => have := HK1.out; have := HJ8.out; have := HJ20.out; have := HJ25.out; omega
                 case rel => exact ⟨(y132), (wrap64 (x6_1 + 1)), (by first | rfl | (simp; done) | (simp [*]; done) | (simp [bne, List.isEmpty_iff]; done) | (simp [bne, List.isEmpty_iff, *]; done) | (simp [bne]; rfl)), H', ⟨by have := HK1.out; have := HJ8.out; have := HJ20.out; have := HJ25.out; omega⟩, ⟨by (with_reducible repeat (first | apply Kd.R_alloc | apply Kd.R_drewN | apply Kd.R_drew)); exact HO134.out⟩, ⟨by repeat (first | (with_reducible first | exact HB.out | apply below_alloc | apply pw_below_drewN | apply below_drew1) | exact HB.out)⟩⟩
                ·rw [if_neg c29] at H
                 exact absurd H (by simp)
               ·replace c28 := Bool.eq_false_iff.mpr c28
                subst c28
                have H1 : (if (bt a0 x6_1) = 34 then (if a1 = true then (if x5_1.length + 6 < 140737488355328 then (selvedgeref06_Escape.l0 kj25 a0 a1 (x5_1 ++ bytesOf (⟨#[38, 113, 117, 111, 116, 59]⟩ : ByteArray)) (wrap64 (x6_1 + 1))) else (none)) else (if x5_1.length < 140737488355328 then (selvedgeref06_Escape.l0 kj25 a0 a1 (x5_1 ++ [(bt a0 x6_1)]) (wrap64 (x6_1 + 1))) else (none))) else (if x5_1.length < 140737488355328 then (selvedgeref06_Escape.l0 kj25 a0 a1 (x5_1 ++ [(bt a0 x6_1)]) (wrap64 (x6_1 + 1))) else (none))) = some r := by rw [if_neg (show ¬ (false = true) by decide)] at H; exact H
                clear H
                have H := H1
                clear H1
                by_cases c31 : (bt a0 x6_1) = 34
                ·rw [if_pos c31] at H
                 have c31b0 : ((bt a0 x6_1) == 34) = true := beq_iff_eq.mpr c31
                 have c31b1 : ((bt a0 x6_1) != 34) = false := bne_eq_false_iff_eq.mpr c31
                 clear c31
                 by_cases c32 : a1 = true
                 ·subst c32
                  have H1 : (if x5_1.length + 6 < 140737488355328 then (selvedgeref06_Escape.l0 kj25 a0 true (x5_1 ++ bytesOf (⟨#[38, 113, 117, 111, 116, 59]⟩ : ByteArray)) (wrap64 (x6_1 + 1))) else (none)) = some r := by rw [if_pos rfl] at H; exact H
                  clear H
                  have H := H1
                  clear H1
                  by_cases c33 : x5_1.length + 6 < 140737488355328
                  ·rw [if_pos c33] at H
                   have LMc33 := Aside0.mk c33
                   clear c33
                   obtain ⟨y135, hy135⟩ : ∃ y_ : List Int, y_ = (x5_1 ++ bytesOf (⟨#[38, 113, 117, 111, 116, 59]⟩ : ByteArray)) := ⟨_, rfl⟩
                   replace H : (selvedgeref06_Escape.l0 kj25 a0 true y135 (wrap64 (x6_1 + 1))) = some r := by first | (rw [hy135]; with_reducible exact H) | (have H2_ := (Option.bind_some _ _).symm.trans H; rw [hy135]; with_reducible exact H2_) | (have H2_ := (Option.bind_some _ _).symm.trans H; with_reducible exact H2_) | with_reducible exact H | (rw [hy135]; exact H) | exact H
                   have Ny135 := Aside0.mk hy135
                   clear hy135
                   have H' := Aside0.mk H
                   clear H
                   go_wp2_with (first | (at_builtin; refine print_append_str (w0 := w) w.heap.size rfl (.tmp 76) _ 28 9 5 rfl Tryd.underlying28 Tryd.underlying9 info5 u5 x5_1 (⟨#[38, 113, 117, 111, 116, 59]⟩ : ByteArray) rfl rfl ?aO ?aB ?aS ?aL ?_; (case aB => exact (by repeat (first | (with_reducible first | exact HB.out | apply below_alloc | apply pw_below_drewN | apply below_drew1) | exact HB.out))); (case aO => exact (Kd.own_of_R (by (with_reducible repeat (first | apply Kd.R_alloc | apply Kd.R_drewN | apply Kd.R_drew)); exact HO_5.out))); (case aS => exact (below_size (by repeat (first | (with_reducible first | exact HB.out | apply below_alloc | apply pw_below_drewN | apply below_drew1) | exact HB.out)))); (case aL => have := LMc33.out; first | omega | (simp [ByteArray.size]; omega)); intro v136 w34 ho0 hb hg; have ho := Kd.R_of_own (h1 := fun _ => rfl) (ok := fun _ => True) ho0 (fun _ _ => trivial); clear ho0; have hat := True.intro; rw [← Ny135.out] at ho; change Kd.R (Kd.int .u8) 5 w34 w.heap.size (fun _ => True) v136 y135 at ho; have n0_ := Aside0.mk (hb); have n1_ := Aside0.mk (ho); clear HB; clear HO_5; have HB := n0_; have HO137 := n1_; clear n0_ n1_; clear ho hb hg hat))
                   go_roundg kj25
                   case measure => have := HK1.out; have := HJ8.out; have := HJ20.out; have := HJ25.out; omega
                   case rel => exact ⟨(y135), (wrap64 (x6_1 + 1)), (by first | rfl | (simp; done) | (simp [*]; done) | (simp [bne, List.isEmpty_iff]; done) | (simp [bne, List.isEmpty_iff, *]; done) | (simp [bne]; rfl)), H', ⟨by have := HK1.out; have := HJ8.out; have := HJ20.out; have := HJ25.out; omega⟩, ⟨by (with_reducible repeat (first | apply Kd.R_alloc | apply Kd.R_drewN | apply Kd.R_drew)); exact HO137.out⟩, ⟨by repeat (first | (with_reducible first | exact HB.out | apply below_alloc | apply pw_below_drewN | apply below_drew1) | exact HB.out)⟩⟩
                  ·rw [if_neg c33] at H
                   exact absurd H (by simp)
                 ·replace c32 := Bool.eq_false_iff.mpr c32
                  subst c32
                  have H1 : (if x5_1.length < 140737488355328 then (selvedgeref06_Escape.l0 kj25 a0 false (x5_1 ++ [(bt a0 x6_1)]) (wrap64 (x6_1 + 1))) else (none)) = some r := by rw [if_neg (show ¬ (false = true) by decide)] at H; exact H
                  clear H
                  have H := H1
                  clear H1
                  by_cases c35 : x5_1.length < 140737488355328
                  ·rw [if_pos c35] at H
                   have LMc35 := Aside0.mk c35
                   clear c35
                   obtain ⟨y138, hy138⟩ : ∃ y_ : List Int, y_ = (x5_1 ++ [(bt a0 x6_1)]) := ⟨_, rfl⟩
                   replace H : (selvedgeref06_Escape.l0 kj25 a0 false y138 (wrap64 (x6_1 + 1))) = some r := by first | (rw [hy138]; with_reducible exact H) | (have H2_ := (Option.bind_some _ _).symm.trans H; rw [hy138]; with_reducible exact H2_) | (have H2_ := (Option.bind_some _ _).symm.trans H; with_reducible exact H2_) | with_reducible exact H | (rw [hy138]; exact H) | exact H
                   have Ny138 := Aside0.mk hy138
                   clear hy138
                   have H' := Aside0.mk H
                   clear H
                   go_wp2_with (first | ((with_reducible refine gate_builtin (b := .append) (xs := #[.tmp 17, .tmp 19]) rfl ?_); (try (refine gate_guard (by rfl) ?_; dsimp only)); at_builtin; refine Kd.R_append (Kd.int .u8) (w0 := w) w.heap.size rfl (.tmp 17) (.tmp 19) 28 5 (.int .u8 0) 1 rfl Tryd.underlying28 info5 rfl (by decide) (by omega) u5 x5_1 (bt a0 x6_1) [.int .u8 (bt a0 x6_1)] (fun _ => True) (fun _ => False) rfl rfl ?aP (fun _ hk => hk.elim) ?aF ?aO ?aB ?aS ?aL ?_; (case aP => exact rfl); (case aB => exact (by repeat (first | (with_reducible first | exact HB.out | apply below_alloc | apply pw_below_drewN | apply below_drew1) | exact HB.out))); (case aF => exact (fun _ _ => trivial)); (case aO => exact (by (with_reducible repeat (first | apply Kd.R_alloc | apply Kd.R_drewN | apply Kd.R_drew)); exact HO_5.out)); (case aS => exact (below_size (by repeat (first | (with_reducible first | exact HB.out | apply below_alloc | apply pw_below_drewN | apply below_drew1) | exact HB.out)))); (case aL => have := LMc35.out; first | omega | (simp [ByteArray.size]; omega)); intro v139 w36 ho hb hg hat; rw [← Ny138.out] at ho; have n0_ := Aside0.mk (hb); have n1_ := Aside0.mk (ho); clear HB; clear HO_5; have HB := n0_; have HO140 := n1_; clear n0_ n1_; clear ho hb hg hat))
                   go_roundg kj25
                   case measure => have := HK1.out; have := HJ8.out; have := HJ20.out; have := HJ25.out; omega
                   case rel => exact ⟨(y138), (wrap64 (x6_1 + 1)), (by first | rfl | (simp; done) | (simp [*]; done) | (simp [bne, List.isEmpty_iff]; done) | (simp [bne, List.isEmpty_iff, *]; done) | (simp [bne]; rfl)), H', ⟨by have := HK1.out; have := HJ8.out; have := HJ20.out; have := HJ25.out; omega⟩, ⟨by (with_reducible repeat (first | apply Kd.R_alloc | apply Kd.R_drewN | apply Kd.R_drew)); exact HO140.out⟩, ⟨by repeat (first | (with_reducible first | exact HB.out | apply below_alloc | apply pw_below_drewN | apply below_drew1) | exact HB.out)⟩⟩
                  ·rw [if_neg c35] at H
                   exact absurd H (by simp)
                ·rw [if_neg c31] at H
                 have c31b0 : ((bt a0 x6_1) == 34) = false := beq_eq_false_iff_ne.mpr c31
                 have c31b1 : ((bt a0 x6_1) != 34) = true := bne_iff_ne.mpr c31
                 by_cases c37 : x5_1.length < 140737488355328
                 ·rw [if_pos c37] at H
                  have LMc37 := Aside0.mk c37
                  clear c37
                  obtain ⟨y141, hy141⟩ : ∃ y_ : List Int, y_ = (x5_1 ++ [(bt a0 x6_1)]) := ⟨_, rfl⟩
                  replace H : (selvedgeref06_Escape.l0 kj25 a0 a1 y141 (wrap64 (x6_1 + 1))) = some r := by first | (rw [hy141]; with_reducible exact H) | (have H2_ := (Option.bind_some _ _).symm.trans H; rw [hy141]; with_reducible exact H2_) | (have H2_ := (Option.bind_some _ _).symm.trans H; with_reducible exact H2_) | with_reducible exact H | (rw [hy141]; exact H) | exact H
                  have Ny141 := Aside0.mk hy141
                  clear hy141
                  have H' := Aside0.mk H
                  clear H
                  go_wp2_with (first | ((with_reducible refine gate_builtin (b := .append) (xs := #[.tmp 17, .tmp 19]) rfl ?_); (try (refine gate_guard (by rfl) ?_; dsimp only)); at_builtin; refine Kd.R_append (Kd.int .u8) (w0 := w) w.heap.size rfl (.tmp 17) (.tmp 19) 28 5 (.int .u8 0) 1 rfl Tryd.underlying28 info5 rfl (by decide) (by omega) u5 x5_1 (bt a0 x6_1) [.int .u8 (bt a0 x6_1)] (fun _ => True) (fun _ => False) rfl rfl ?aP (fun _ hk => hk.elim) ?aF ?aO ?aB ?aS ?aL ?_; (case aP => exact rfl); (case aB => exact (by repeat (first | (with_reducible first | exact HB.out | apply below_alloc | apply pw_below_drewN | apply below_drew1) | exact HB.out))); (case aF => exact (fun _ _ => trivial)); (case aO => exact (by (with_reducible repeat (first | apply Kd.R_alloc | apply Kd.R_drewN | apply Kd.R_drew)); exact HO_5.out)); (case aS => exact (below_size (by repeat (first | (with_reducible first | exact HB.out | apply below_alloc | apply pw_below_drewN | apply below_drew1) | exact HB.out)))); (case aL => have := LMc37.out; first | omega | (simp [ByteArray.size]; omega)); intro v142 w38 ho hb hg hat; rw [← Ny141.out] at ho; have n0_ := Aside0.mk (hb); have n1_ := Aside0.mk (ho); clear HB; clear HO_5; have HB := n0_; have HO143 := n1_; clear n0_ n1_; clear ho hb hg hat))
                  go_roundg kj25
                  case measure => have := HK1.out; have := HJ8.out; have := HJ20.out; have := HJ25.out; omega
                  case rel => exact ⟨(y141), (wrap64 (x6_1 + 1)), (by first | rfl | (simp; done) | (simp [*]; done) | (simp [bne, List.isEmpty_iff]; done) | (simp [bne, List.isEmpty_iff, *]; done) | (simp [bne]; rfl)), H', ⟨by have := HK1.out; have := HJ8.out; have := HJ20.out; have := HJ25.out; omega⟩, ⟨by (with_reducible repeat (first | apply Kd.R_alloc | apply Kd.R_drewN | apply Kd.R_drew)); exact HO143.out⟩, ⟨by repeat (first | (with_reducible first | exact HB.out | apply below_alloc | apply pw_below_drewN | apply below_drew1) | exact HB.out)⟩⟩
                 ·rw [if_neg c37] at H
                  exact absurd H (by simp)
    ·rw [if_neg c4] at H
     exact absurd H (by simp)
   ·rw [if_neg c3] at H
    have c3b0 : decide (x6_1 < (a0.size : Int)) = false := decide_eq_false c3
    clear c3
    obtain rfl := Option.some.inj H
    have hcv39 := own_string (P := Tryd.prog) Tryd.underlying28 Tryd.underlying5 Tryd.underlying9 (Kd.own_of_R HO_5.out)
    go_wp2
    go_ret
    exact ⟨by first | rfl | (simp [errW_none, errW_some] <;> rfl) | (simp [*, errW_none, errW_some] <;> rfl), by repeat (first | (with_reducible first | exact HB.out | apply below_alloc | apply pw_below_drewN | apply below_drew1) | exact HB.out)⟩

end Go.Proofs.YtpfhgolamlnhiaaDoor.XA

namespace Go.Proofs.YtpfhgolamlnhiaaDoor.XA
open Go.RowKit Go.Proofs.YtpfhgolamlnhiaaDoor Go.Proofs.YtpfhgolamlnhiaaDoor.XT Go.Proofs.YtpfhgolamlnhiaaDoorW.PrintWords Go.Proofs.YtpfhgolamlnhiaaDoorW.PrintLast Go.Proofs.YtpfhgolamlnhiaaDoorW.PrintMore
attribute [local go_sem] max2_int min2_int max_two min_two max_three min_three max_four min_four   -- for this text's walks alone
set_option linter.unusedVariables false
set_option linter.unusedSimpArgs false

end Go.Proofs.YtpfhgolamlnhiaaDoor.XA
