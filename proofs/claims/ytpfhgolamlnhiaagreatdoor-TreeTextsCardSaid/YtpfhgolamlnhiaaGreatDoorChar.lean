-- Written by wip/tools/px.py for this claim, by way of the kit's print of the translation. Lean checks it.
import Derived.Test.YtpfhgolamlnhiaaGreatDoorXT
import Derived.Test.YtpfhgolamlnhiaaGreatDoorXA
import Derived.Test.YtpfhgolamlnhiaaGreatDoorNames
import Derived.Test.YtpfhgolamlnhiaaGreatDoorShelf
import Derived.Test.YtpfhgolamlnhiaaGreatDoorWWords
import Derived.Lib.Hide
import Derived.BigCall
import Derived.WalkKit
import Derived.Laws.EntriesVeiled
import Derived.Test.YtpfhgolamlnhiaaGreatDoorExt1
import Derived.OwnWalk
import Derived.Lib.RabinKarpLaws
import Derived.Deep.DeepCutAuto
import Derived.Deep.CutBlock
import Derived.Deep.LoopGhost
namespace Go.Proofs.YtpfhgolamlnhiaaGreatDoor.XP
open Go.RowKit Go.Proofs.YtpfhgolamlnhiaaGreatDoor Go.Proofs.YtpfhgolamlnhiaaGreatDoor.XT Go.Proofs.YtpfhgolamlnhiaaGreatDoor.XA Go.Proofs.YtpfhgolamlnhiaaGreatDoorW.PrintWords Go.Proofs.YtpfhgolamlnhiaaGreatDoorW.PrintLast Go.Proofs.YtpfhgolamlnhiaaGreatDoorW.PrintMore
attribute [local go_sem] max2_int min2_int max_two min_two max_three min_three max_four min_four   -- for this text's walks alone
set_option linter.unusedVariables false
set_option linter.unusedSimpArgs false

end Go.Proofs.YtpfhgolamlnhiaaGreatDoor.XP

namespace Go.Proofs.YtpfhgolamlnhiaaGreatDoor.XP
open Go.RowKit Go.Proofs.YtpfhgolamlnhiaaGreatDoor Go.Proofs.YtpfhgolamlnhiaaGreatDoor.XT Go.Proofs.YtpfhgolamlnhiaaGreatDoor.XA Go.Proofs.YtpfhgolamlnhiaaGreatDoorW.PrintWords Go.Proofs.YtpfhgolamlnhiaaGreatDoorW.PrintLast Go.Proofs.YtpfhgolamlnhiaaGreatDoorW.PrintMore
attribute [local go_sem] max2_int min2_int max_two min_two max_three min_three max_four min_four   -- for this text's walks alone
set_option linter.unusedVariables false
set_option linter.unusedSimpArgs false

/-! ### charref_digit: function 180 -/
def charref_digit.j0 : Nat → Int → Bool → Option (Int)
 | 0, _, _ => none
 | k + 1, x0, x3 => if x3 = true then (some ((x0 - 48) % 256)) else (if (Go.bits .or .u8 x0 32) ≥ 97 then (if (Go.bits .or .u8 x0 32) ≤ 102 then (some ((((Go.bits .or .u8 x0 32) - 97) % 256) + 10)) else (some 16)) else (some 16))
def charref_digit.f (k : Nat) (a0 : Int) : Option (Int) := if a0 ≥ 48 then (charref_digit.j0 k a0 (decide (a0 ≤ 57))) else (charref_digit.j0 k a0 false)
theorem charref_digit.mono_l : ∀ k, (∀ y0 y1, LeO (charref_digit.j0 k y0 y1) (charref_digit.j0 (k + 1) y0 y1))
 | 0 => fun _ _ r h => by simp [charref_digit.j0] at h
 | k + 1 => by
  have ih0 := charref_digit.mono_l k
  ·intro y0 y1
   unfold charref_digit.j0
   repeat' first
   | (with_reducible exact ih0 _ _)
   | (with_reducible exact LeO.refl _)
   | (with_reducible exact LeO.none _)
   | (with_reducible refine LeO.ite ?_ ?_)
   | (with_reducible refine LeO.bind ?_ (fun _ => ?_))
   | exact ih0 _ _
   | exact LeO.none _
   | refine LeO.ite ?_ ?_
   | refine LeO.bind ?_ (fun _ => ?_)
theorem charref_digit.mono : ∀ a0 k, LeO (charref_digit.f k a0) (charref_digit.f (k + 1) a0) := by
 intro a0 k
 have ih0 := charref_digit.mono_l k
 unfold charref_digit.f
 repeat' first
   | (with_reducible exact ih0 _ _)
   | (with_reducible exact LeO.refl _)
   | (with_reducible exact LeO.none _)
   | (with_reducible refine LeO.ite ?_ ?_)
   | (with_reducible refine LeO.bind ?_ (fun _ => ?_))
   | exact ih0 _ _
   | exact LeO.none _
   | refine LeO.ite ?_ ?_
   | refine LeO.bind ?_ (fun _ => ?_)
set_option maxHeartbeats 80000000 in
set_option maxRecDepth 100000 in
theorem charref_digit.calls (k : Nat) (a0 : Int) (r : Int) (w : World) (h : charref_digit.f k a0 = some r) :
  Calls Tryz.prog 180 #[.int .u8 a0] w fun e w' => e = .returned (.int .i32 r) ∧ Drawn0 w w' := by
 have H : (if a0 ≥ 48 then (charref_digit.j0 k a0 (decide (a0 ≤ 57))) else (charref_digit.j0 k a0 false)) = some r := h
 clear h
 have HC2 := Aside0.mk H
 clear H
 go_enter Tryz.func180, Tryz.ntmps180
 go_upto_region 1 with (fail)
 go_cut [3] (fun v3 wc => ∃ (kq : Nat) (x3_1 : Bool), v3 = .bool x3_1 ∧ Aside0 (charref_digit.j0 kq a0 x3_1 = some r) ∧ Aside0 (kq ≤ k) ∧ Drawn0 w wc)
 case first =>
  have H := HC2.out
  clear HC2
  by_cases c3 : a0 ≥ 48
  ·rw [if_pos c3] at H
   have c3b0 : decide (48 ≤ a0) = true := decide_eq_true c3
   clear c3
   (first | rw [c3b0] | (simp only [i64_w, i32_w]; rw [c3b0]) | skip)
   have H' := Aside0.mk H
   clear H
   go_wp2
   go_meet
   case rel => exact ⟨_, (decide (a0 ≤ 57)), (by first | rfl | (simp; done) | (simp [*]; done) | (simp [bne, List.isEmpty_iff]; done) | (simp [bne, List.isEmpty_iff, *]; done) | (simp [bne]; rfl)), H', ⟨by first | omega | exact Nat.le_refl _⟩, by repeat (first | exact Drawn0.refl _ | apply Drawn0.step)⟩
  ·rw [if_neg c3] at H
   have c3b0 : decide (48 ≤ a0) = false := decide_eq_false c3
   clear c3
   (first | rw [c3b0] | (simp only [i64_w, i32_w]; rw [c3b0]) | skip)
   have H' := Aside0.mk H
   clear H
   go_wp2
   go_meet
   case rel => exact ⟨_, (false), (by first | rfl | (simp; done) | (simp [*]; done) | (simp [bne, List.isEmpty_iff]; done) | (simp [bne, List.isEmpty_iff, *]; done) | (simp [bne]; rfl)), H', ⟨by first | omega | exact Nat.le_refl _⟩, by repeat (first | exact Drawn0.refl _ | apply Drawn0.step)⟩
 case rest =>
  clear HC2
  try clear c1
  try clear p2
  try clear c3
  try clear c3b0
  obtain ⟨kq, x3_1, rfl, HA, HJ1, ⟨mc1, rfl⟩⟩ := hcut
  cases kq with
  | zero => exact absurd HA.out (by simp [charref_digit.j0])
  | succ kj1 =>
   have H := HA.out
   clear HA
   simp only [charref_digit.j0] at H
   by_cases c4 : x3_1 = true
   ·subst c4
    have H1 : (some ((a0 - 48) % 256)) = some r := by rw [if_pos rfl] at H; exact H
    clear H
    have H := H1
    clear H1
    obtain rfl := Option.some.inj H
    go_wp2
    go_ret
    exact ⟨by first | rfl | (simp; done) | (simp [*]; done) | (simp [bne, List.isEmpty_iff]; done) | (simp [bne, List.isEmpty_iff, *]; done) | (simp [bne]; rfl), by repeat (first | exact Drawn0.refl _ | apply Drawn0.step)⟩
   ·replace c4 := Bool.eq_false_iff.mpr c4
    subst c4
    have H1 : (if (Go.bits .or .u8 a0 32) ≥ 97 then (if (Go.bits .or .u8 a0 32) ≤ 102 then (some ((((Go.bits .or .u8 a0 32) - 97) % 256) + 10)) else (some 16)) else (some 16)) = some r := by rw [if_neg (show ¬ (false = true) by decide)] at H; exact H
    clear H
    have H := H1
    clear H1
    by_cases c5 : (Go.bits .or .u8 a0 32) ≥ 97
    ·rw [if_pos c5] at H
     have c5b0 : decide (97 ≤ (Go.bits .or .u8 a0 32)) = true := decide_eq_true c5
     clear c5
     by_cases c6 : (Go.bits .or .u8 a0 32) ≤ 102
     ·rw [if_pos c6] at H
      have c6b0 : decide ((Go.bits .or .u8 a0 32) ≤ 102) = true := decide_eq_true c6
      clear c6
      obtain rfl := Option.some.inj H
      go_wp2
      go_ret
      exact ⟨by first | rfl | (simp; done) | (simp [*]; done) | (simp [bne, List.isEmpty_iff]; done) | (simp [bne, List.isEmpty_iff, *]; done) | (simp [bne]; rfl), by repeat (first | exact Drawn0.refl _ | apply Drawn0.step)⟩
     ·rw [if_neg c6] at H
      have c6b0 : decide ((Go.bits .or .u8 a0 32) ≤ 102) = false := decide_eq_false c6
      clear c6
      obtain rfl := Option.some.inj H
      go_wp2
      go_ret
      exact ⟨by first | rfl | (simp; done) | (simp [*]; done) | (simp [bne, List.isEmpty_iff]; done) | (simp [bne, List.isEmpty_iff, *]; done) | (simp [bne]; rfl), by repeat (first | exact Drawn0.refl _ | apply Drawn0.step)⟩
    ·rw [if_neg c5] at H
     have c5b0 : decide (97 ≤ (Go.bits .or .u8 a0 32)) = false := decide_eq_false c5
     clear c5
     obtain rfl := Option.some.inj H
     go_wp2
     go_ret
     exact ⟨by first | rfl | (simp; done) | (simp [*]; done) | (simp [bne, List.isEmpty_iff]; done) | (simp [bne, List.isEmpty_iff, *]; done) | (simp [bne]; rfl), by repeat (first | exact Drawn0.refl _ | apply Drawn0.step)⟩

/-! ### charref_alnum: function 164 -/
def charref_alnum.f (a0 : Int) : Option (Bool) := if a0 ≥ 48 then (if a0 ≤ 57 then (some true) else (if (Go.bits .or .u8 a0 32) ≥ 97 then (some (decide ((Go.bits .or .u8 a0 32) ≤ 122))) else (some false))) else (if (Go.bits .or .u8 a0 32) ≥ 97 then (some (decide ((Go.bits .or .u8 a0 32) ≤ 122))) else (some false))
set_option maxHeartbeats 80000000 in
set_option maxRecDepth 100000 in
theorem charref_alnum.calls (a0 : Int) (r : Bool) (w : World) (h : charref_alnum.f a0 = some r) :
  Calls Tryz.prog 164 #[.int .u8 a0] w fun e w' => e = .returned (.bool r) ∧ Drawn0 w w' := by
 have H : (if a0 ≥ 48 then (if a0 ≤ 57 then (some true) else (if (Go.bits .or .u8 a0 32) ≥ 97 then (some (decide ((Go.bits .or .u8 a0 32) ≤ 122))) else (some false))) else (if (Go.bits .or .u8 a0 32) ≥ 97 then (some (decide ((Go.bits .or .u8 a0 32) ≤ 122))) else (some false))) = some r := h
 clear h
 by_cases c2 : a0 ≥ 48
 ·rw [if_pos c2] at H
  have c2b0 : decide (48 ≤ a0) = true := decide_eq_true c2
  clear c2
  by_cases c3 : a0 ≤ 57
  ·rw [if_pos c3] at H
   have c3b0 : decide (a0 ≤ 57) = true := decide_eq_true c3
   clear c3
   obtain rfl := Option.some.inj H
   go_enter Tryz.func164, Tryz.ntmps164
   go_wp2
   go_ret
   exact ⟨by first | rfl | (simp; done) | (simp [*]; done) | (simp [bne, List.isEmpty_iff]; done) | (simp [bne, List.isEmpty_iff, *]; done) | (simp [bne]; rfl), by repeat (first | exact Drawn0.refl _ | apply Drawn0.step)⟩
  ·rw [if_neg c3] at H
   have c3b0 : decide (a0 ≤ 57) = false := decide_eq_false c3
   clear c3
   by_cases c4 : (Go.bits .or .u8 a0 32) ≥ 97
   ·rw [if_pos c4] at H
    have c4b0 : decide (97 ≤ (Go.bits .or .u8 a0 32)) = true := decide_eq_true c4
    clear c4
    obtain rfl := Option.some.inj H
    go_enter Tryz.func164, Tryz.ntmps164
    go_wp2
    go_ret
    exact ⟨by first | rfl | (simp; done) | (simp [*]; done) | (simp [bne, List.isEmpty_iff]; done) | (simp [bne, List.isEmpty_iff, *]; done) | (simp [bne]; rfl), by repeat (first | exact Drawn0.refl _ | apply Drawn0.step)⟩
   ·rw [if_neg c4] at H
    have c4b0 : decide (97 ≤ (Go.bits .or .u8 a0 32)) = false := decide_eq_false c4
    clear c4
    obtain rfl := Option.some.inj H
    go_enter Tryz.func164, Tryz.ntmps164
    go_wp2
    go_ret
    exact ⟨by first | rfl | (simp; done) | (simp [*]; done) | (simp [bne, List.isEmpty_iff]; done) | (simp [bne, List.isEmpty_iff, *]; done) | (simp [bne]; rfl), by repeat (first | exact Drawn0.refl _ | apply Drawn0.step)⟩
 ·rw [if_neg c2] at H
  have c2b0 : decide (48 ≤ a0) = false := decide_eq_false c2
  clear c2
  by_cases c5 : (Go.bits .or .u8 a0 32) ≥ 97
  ·rw [if_pos c5] at H
   have c5b0 : decide (97 ≤ (Go.bits .or .u8 a0 32)) = true := decide_eq_true c5
   clear c5
   obtain rfl := Option.some.inj H
   go_enter Tryz.func164, Tryz.ntmps164
   go_wp2
   go_ret
   exact ⟨by first | rfl | (simp; done) | (simp [*]; done) | (simp [bne, List.isEmpty_iff]; done) | (simp [bne, List.isEmpty_iff, *]; done) | (simp [bne]; rfl), by repeat (first | exact Drawn0.refl _ | apply Drawn0.step)⟩
  ·rw [if_neg c5] at H
   have c5b0 : decide (97 ≤ (Go.bits .or .u8 a0 32)) = false := decide_eq_false c5
   clear c5
   obtain rfl := Option.some.inj H
   go_enter Tryz.func164, Tryz.ntmps164
   go_wp2
   go_ret
   exact ⟨by first | rfl | (simp; done) | (simp [*]; done) | (simp [bne, List.isEmpty_iff]; done) | (simp [bne, List.isEmpty_iff, *]; done) | (simp [bne]; rfl), by repeat (first | exact Drawn0.refl _ | apply Drawn0.step)⟩

end Go.Proofs.YtpfhgolamlnhiaaGreatDoor.XP

namespace Go.Proofs.YtpfhgolamlnhiaaGreatDoor.XP
open Go.RowKit Go.Proofs.YtpfhgolamlnhiaaGreatDoor Go.Proofs.YtpfhgolamlnhiaaGreatDoor.XT Go.Proofs.YtpfhgolamlnhiaaGreatDoor.XA Go.Proofs.YtpfhgolamlnhiaaGreatDoorW.PrintWords Go.Proofs.YtpfhgolamlnhiaaGreatDoorW.PrintLast Go.Proofs.YtpfhgolamlnhiaaGreatDoorW.PrintMore
attribute [local go_sem] max2_int min2_int max_two min_two max_three min_three max_four min_four   -- for this text's walks alone
set_option linter.unusedVariables false
set_option linter.unusedSimpArgs false

end Go.Proofs.YtpfhgolamlnhiaaGreatDoor.XP

set_option linter.unusedVariables false
set_option linter.unusedSimpArgs false
namespace Go.Proofs.YtpfhgolamlnhiaaGreatDoor
open Go.RowKit Go.Proofs.YtpfhgolamlnhiaaGreatDoorW.PrintWords

def cmpB (a b : ByteArray) : Int := Lib.compareBytes a.data.toList b.data.toList
set_option maxRecDepth 100000 in
theorem cmp_calls (n : Nm) (s : ByteArray) (w : World) :
    Calls Tryz.prog 166 #[.agg #[.string n.s, .int .i32 n.r, .bool n.al], .string s] w fun e w' => e = .returned (.int .i64 (cmpB n.s s)) ∧ Below w.heap.size w w' := by
  have hu := Tryz.underlying168
  go_enter Tryz.func166, Tryz.ntmps166
  go_wp2_with (go_at_call 167; refine (Tryz.strings_Compare _ _ _).mono ?_; rintro e w' ⟨rfl, rfl⟩)
  go_ret
  exact ⟨rfl, below_alloc (Below.refl _ _) _⟩

/-- Where the search ends. -/
def bsGo (s : ByteArray) : Nat → Nat → Nat → Nat
  | 0, i, _ => i
  | f + 1, i, j => if i < j then (if cmpB (nmAt ((i + j) / 2)).s s < 0 then bsGo s f ((i + j) / 2 + 1) j else bsGo s f i ((i + j) / 2)) else i
def bs (s : ByteArray) : Nat := bsGo s 60 0 59
def bsHit (s : ByteArray) : Bool := decide (bs s < 59) && cmpB (nmAt (bs s)).s s == 0
set_option maxRecDepth 100000 in
theorem bin_calls (s : ByteArray) (w : World) (h2 : G2 w) :
    Calls Tryz.prog 165 #[.slice (some ⟨3, 0, none⟩) 59 59, .string s, .func (.func 166) #[] #[]] w
      fun e w' => e = .returned (.tuple #[.int .i64 (bs s : Nat), .bool (bsHit s)]) ∧ Below w.heap.size w w' := by
  have hu := Tryz.underlying168
  have HG := Lib.hid h2
  clear h2
  go_enter Tryz.func165, Tryz.ntmps165
  go_wp2
  go_loopw [9, 10] (fun v9 v10 wr => ∃ (i j f : Nat), v9 = .int .i64 i ∧ v10 = .int .i64 j ∧ i ≤ j ∧ j ≤ 59 ∧ j - i < f ∧ Hid (bsGo s f i j = bs s) ∧ Hid (Below w.heap.size w wr)) (fun v9 v10 wr => (intOf v10).toNat - (intOf v9).toNat)
  case atStart => exact ⟨0, 59, 60, rfl, rfl, by omega, by omega, by omega, Lib.hid rfl, Lib.hid (Below.refl _ _)⟩
  case round =>
    obtain ⟨i, j, f, rfl, rfl, hij, hj, hf, hgo, hb⟩ := hrel
    by_cases hlt : i < j
    · have hh : (i + j) / 2 < 59 := by omega
      obtain ⟨f, rfl⟩ : ∃ m, f = m + 1 := ⟨f - 1, by omega⟩
      have hg := hgo.out
      rw [bsGo, if_pos hlt] at hg
      have G := HG.out.below hb.out
      have z0 := G.s _ hh
      have z1 := G.r _ hh
      have z2 := G.al _ hh
      rw [Nat.mul_comm 3] at z0 z1 z2
      have ec : ((i : Int) + (j : Int)) / 2 = (((i + j) / 2 : Nat) : Int) := by omega
      have hlz : ((i + j) / 2) * 3 + 3 < 1000 := by omega
      generalize hm : (i + j) / 2 = h at *
      go_wp2_with (go_at_call 166; refine (cmp_calls (nmAt h) s _).mono ?_; rintro e w1 ⟨rfl, hb1⟩)
      · rename_i hc
        rw [if_pos hc] at hg
        exact ⟨⟨h + 1, j, f, by go_num, rfl, by omega, by omega, by omega, Lib.hid hg, Lib.hid (below_then hb.out hb.out.size hb1)⟩, by simp [intOf]; omega⟩
      · rename_i hc
        rw [if_neg (by omega)] at hg
        exact ⟨⟨i, h, f, rfl, rfl, by omega, by omega, by omega, Lib.hid hg, Lib.hid (below_then hb.out hb.out.size hb1)⟩, by simp [intOf]; omega⟩
    · have hg := hgo.out
      obtain ⟨f, rfl⟩ : ∃ m, f = m + 1 := ⟨f - 1, by omega⟩
      rw [bsGo, if_neg hlt] at hg
      obtain rfl : i = j := by omega
      have HE := Lib.hid hg
      clear hg hgo
      by_cases h59 : i < 59
      · have G := HG.out.below hb.out
        have z0 := G.s _ h59
        have z1 := G.r _ h59
        have z2 := G.al _ h59
        rw [Nat.mul_comm 3] at z0 z1 z2
        have hlz : i * 3 + 3 < 1000 := by omega
        have h5' : decide ((i : Int) < 59) = true := by simp; omega
        go_wp2_with (go_at_call 166; refine (cmp_calls (nmAt i) s _).mono ?_; rintro e w1 ⟨rfl, hb1⟩)
        go_ret2
        refine ⟨?_, below_then hb.out hb.out.size hb1⟩
        have e := HE.out
        simp [bsHit, ← e, h59]
      · go_wp2_with fail
        go_ret2
        refine ⟨?_, hb.out⟩
        have e := HE.out
        simp [bsHit, ← e, h59]
end Go.Proofs.YtpfhgolamlnhiaaGreatDoor

set_option linter.unusedVariables false
set_option linter.unusedSimpArgs false
namespace Go.Proofs.YtpfhgolamlnhiaaGreatDoor
open Go.RowKit Go.Proofs.YtpfhgolamlnhiaaGreatDoorW.PrintWords Go.Proofs.YtpfhgolamlnhiaaGreatDoor.XP

/-- A digit's number, 16 where it is none. -/
def dg (c : Nat) : Int := (charref_digit.f 1 c).getD 0
theorem dg_some (c : Nat) : charref_digit.f 1 c = some (dg c) := by
  unfold dg charref_digit.f
  simp only [charref_digit.j0]
  repeat' split
  all_goals rfl
theorem dg_le (c : Nat) (hc : c < 256) : 0 ≤ dg c ∧ dg c ≤ 16 := by
  have : ∀ c : Fin 256, 0 ≤ dg c.1 ∧ dg c.1 ≤ 16 := by decide +kernel
  exact this ⟨c, hc⟩
def numLoop (s : ByteArray) (base : Int) : Nat → Nat → Int → Nat × Int
  | 0, i, n => (i, n)
  | f + 1, i, n => if i < s.size ∧ dg (Sv.at' s i) < base then numLoop s base f (i + 1) (min (n * base + dg (Sv.at' s i)) 1114112) else (i, n)
def isX (s : ByteArray) : Bool := decide (s.size ≠ 0) && (Go.bits .or .u8 (Sv.at' s 0) 32 == 120)
def numRune (n : Int) : Int := if n = 0 ∨ Lib.validRune n = false then 65533 else if 128 ≤ n ∧ n ≤ 159 ∧ othAt (n - 128).toNat ≠ 0 then othAt (n - 128).toNat else n
def numRest (rest : ByteArray) (d : Nat) : ByteArray := ⟨(Lib.trimPrefix (List.take (rest.size - d) (List.drop d rest.data.toList)) [59]).toArray⟩
def numP (s : ByteArray) : Int × Int × Bool :=
  let rest := if isX s then s.extract 1 s.size else s
  let d := numLoop rest (if isX s then 16 else 10) (rest.size + 1) 0 0
  if d.1 = 0 then (0, 0, false) else (numRune d.2, (s.size : Int) - (numRest rest d.1).size, true)

theorem at_get (s : ByteArray) (i : Nat) (h : i < s.size) : Sv.at' s i = s[i].toNat := by
  unfold Sv.at'
  congr 1
  exact getElem!_pos s.data i h
theorem ne_list (s : ByteArray) (h : s.size ≠ 0) : ¬ s.toList = [] := by
  rw [ByteArray.toList_eq]
  intro e
  apply h
  rw [← Sv.size_list, e]
  rfl
theorem numLoop_bound (s : ByteArray) (base : Int) : ∀ (f i : Nat) (n : Int), i ≤ s.size → (numLoop s base f i n).1 ≤ s.size
  | 0, i, n, h => h
  | f + 1, i, n, h => by
    unfold numLoop
    split
    · exact numLoop_bound s base f (i + 1) _ (by omega)
    · exact h
def restOf (s : ByteArray) : ByteArray := if isX s then s.extract 1 s.size else s
def baseOf (s : ByteArray) : Int := if isX s then 16 else 10
set_option maxRecDepth 100000 in
theorem number_calls (s : ByteArray) (w : World) (h2 : G2 w) (hs : s.size ≤ 4611686018427387904) :
    Calls Tryz.prog 163 #[.string s] w fun e w' => e = .returned (.tuple #[.int .i32 (numP s).1, .int .i64 (numP s).2.1, .bool (numP s).2.2]) ∧ Below w.heap.size w w' := by
  have HG := Lib.hid h2
  clear h2
  by_cases h0 : s.size = 0
  · obtain rfl : s = ⟨#[]⟩ := ByteArray.ext (Array.size_eq_zero_iff.1 h0)
    rw [show numP ⟨#[]⟩ = (0, 0, false) by decide +kernel]
    go_enter Tryz.func163, Tryz.ntmps163
    go_wp2_with fail
    go_loopw [7, 8] (fun v7 v8 wr => v7 = .int .i64 0 ∧ v8 = .int .i32 0 ∧ wr = w) (fun v7 v8 wr => 0)
    case atStart => exact ⟨rfl, rfl, rfl⟩
    case round =>
      obtain ⟨rfl, rfl, rfl⟩ := hrel
      go_wp2_with fail
      go_ret3
      exact ⟨rfl, Below.refl _ _⟩
  · have hne := ne_list s h0
    have hpos : 0 < s.size := by omega
    have hat := at_get s 0 hpos
    have HX : Hid (isX s = (Go.bits .or .u8 (s[0].toNat : Int) 32 == 120)) := by
      show isX s = _
      unfold isX
      rw [hat]; simp [h0]
    clear hat
    go_enter Tryz.func163, Tryz.ntmps163
    go_upto_if 17 with fail
    go_cut [5, 6] from 9 to 19 (fun v5 v6 wc => v5 = .string (restOf s) ∧ v6 = .int .i32 (baseOf s) ∧ wc = w)
    case first =>
      go_wp2_with fail
      · rename_i hc
        go_meet
        case rel =>
          have e : isX s = true := by rw [HX.out]; exact hc.2
          exact ⟨by rw [restOf, if_pos e], by rw [baseOf, if_pos e], rfl⟩
      · rename_i hc
        go_meet
        case rel =>
          have e : ¬ isX s = true := by
            rw [HX.out]
            rcases hc with hc | hc
            · exact absurd (by simpa using hc) hne
            · rw [hc]; decide
          exact ⟨by rw [restOf, if_neg e], by rw [baseOf, if_neg e], rfl⟩
    case rest =>
      obtain ⟨rfl, rfl, rfl⟩ := hcut
      have hbase : 10 ≤ baseOf s ∧ baseOf s ≤ 16 := by unfold baseOf; split <;> omega
      have hrs : (restOf s).size ≤ s.size := by unfold restOf; split <;> simp [ByteArray.size_extract]
      have HP : Hid (numP s = if (numLoop (restOf s) (baseOf s) ((restOf s).size + 1) 0 0).1 = 0 then (0, 0, false) else (numRune (numLoop (restOf s) (baseOf s) ((restOf s).size + 1) 0 0).2, (s.size : Int) - (numRest (restOf s) (numLoop (restOf s) (baseOf s) ((restOf s).size + 1) 0 0).1).size, true)) := rfl
      generalize restOf s = rest at *
      generalize baseOf s = base at *
      clear HX hne hpos h0
      go_upto_block 0 with fail
      go_cut [7, 8] from 20 to 42 (fun v7 v8 wd => ∃ (i : Nat) (n : Int), v7 = .int .i64 i ∧ v8 = .int .i32 n ∧ i ≤ rest.size ∧ 0 ≤ n ∧ n ≤ 1114112 ∧ Hid (numLoop rest base (rest.size + 1) 0 0 = (i, n)) ∧ Hid (Below wc.heap.size wc wd))
      case first =>
        go_wp2_with fail
        go_loopw [7, 8] (fun v7 v8 wr => ∃ (i f : Nat) (n : Int), v7 = .int .i64 i ∧ v8 = .int .i32 n ∧ i ≤ rest.size ∧ 0 ≤ n ∧ n ≤ 1114112 ∧ rest.size - i < f ∧ Hid (numLoop rest base f i n = numLoop rest base (rest.size + 1) 0 0) ∧ Hid (Below wc.heap.size wc wr)) (fun v7 v8 wr => rest.size - (intOf v7).toNat)
        case atStart => exact ⟨0, rest.size + 1, 0, rfl, rfl, by omega, by omega, by omega, by omega, Lib.hid rfl, Lib.hid (Below.refl _ _)⟩
        case round =>
          obtain ⟨i, f, n, rfl, rfl, hi, hn0, hn1, hf, hgo, hb⟩ := hrel
          obtain ⟨f, rfl⟩ : ∃ m, f = m + 1 := ⟨f - 1, by omega⟩
          by_cases hlt : i < rest.size
          · have hd := dg_le rest[i].toNat (by have := rest[i].toNat_lt; omega)
            have hbd : -2147483648 ≤ n * base ∧ n * base + 16 ≤ 2147483647 ∧ 0 ≤ n * base := by
              have h1 : 0 ≤ n * base := Int.mul_nonneg hn0 (by omega)
              have h2 : n * base ≤ 1114112 * 16 := Int.mul_le_mul hn1 hbase.2 (by omega) (by omega)
              omega
            have hg := hgo.out
            rw [numLoop, at_get rest i hlt] at hg
            have HGO := Lib.hid hg
            clear hg hgo
            generalize hdd : dg rest[i].toNat = dd at *
            have HD : charref_digit.f 1 (rest[i].toNat : Int) = some dd := by rw [← hdd]; exact dg_some _
            go_wp2_with (go_at_call 180; refine (charref_digit.calls 1 _ _ _ HD).mono ?_; rintro e w1 ⟨rfl, hd1⟩)
            · rename_i wa hda hc
              have hg := HGO.out
              rw [if_pos ⟨hlt, hc⟩] at hg
              exact ⟨⟨i + 1, f, min (n * base + dd) 1114112, by go_num, rfl, by omega, by omega, by omega, by omega, Lib.hid hg, Lib.hid (below_then (below_then hb.out hb.out.size hda.below) (below_then hb.out hb.out.size hda.below).size hd1.below)⟩, by simp [intOf]; omega⟩
            · rename_i hc
              go_meet
              case rel =>
                have hg := HGO.out
                rw [if_neg (by omega)] at hg
                exact ⟨i, n, rfl, rfl, by omega, by omega, by omega, Lib.hid hg.symm, Lib.hid (below_then hb.out hb.out.size hd1.below)⟩
          · have hg := hgo.out
            rw [numLoop, if_neg (by omega)] at hg
            have HGO := Lib.hid hg
            clear hg hgo
            go_wp2_with fail
            go_meet
            case rel => exact ⟨i, n, rfl, rfl, by omega, by omega, by omega, Lib.hid HGO.out.symm, hb⟩
      case rest =>
        obtain ⟨i, n, rfl, rfl, hi, hn0, hn1, hL, hb⟩ := hcut
        have hP := HP.out
        rw [hL.out] at hP
        have HQ := Lib.hid hP
        clear hP hL HP
        by_cases hz : i = 0
        · subst hz
          go_wp2_with fail
          go_ret3
          refine ⟨?_, hb.out⟩
          rw [HQ.out]
          rfl
        · have hlen : (numRest rest i).size ≤ s.size := by
            have h1 : (Lib.trimPrefix (List.take (rest.size - i) (List.drop i rest.data.toList)) [59]).length ≤ rest.size := by
              unfold Lib.trimPrefix
              split <;> simp [Sv.size_list] <;> omega
            show (Lib.trimPrefix (List.take (rest.size - i) (List.drop i rest.data.toList)) [59]).toArray.size ≤ _
            rw [List.size_toArray]
            omega
          have fin : ∀ r, r = numRune n → Ending.returned (.tuple #[.int .i32 r, .int .i64 (wrap64 ((s.size : Int) - ((Lib.trimPrefix (List.take (rest.size - i) (List.drop i rest.data.toList)) [59]).length : Nat))), .bool true]) = Ending.returned (.tuple #[.int .i32 (numP s).1, .int .i64 (numP s).2.1, .bool (numP s).2.2]) := by
            intro r hr
            have hl2 : (Lib.trimPrefix (List.take (rest.size - i) (List.drop i rest.data.toList)) [59]).length = (numRest rest i).size := by
              show _ = (Lib.trimPrefix (List.take (rest.size - i) (List.drop i rest.data.toList)) [59]).toArray.size
              rw [List.size_toArray]
            rw [HQ.out, if_neg hz, hr, hl2]
            have : wrap64 ((s.size : Int) - ((numRest rest i).size : Nat)) = (s.size : Int) - ((numRest rest i).size : Nat) := by unfold wrap64; omega
            rw [this]
          clear hlen
          have FIN := Lib.hid fin
          clear fin
          by_cases hr : 128 ≤ n ∧ n ≤ 159
          · have zc := (HG.out.below hb.out).oth (n - 128).toNat (by omega)
            have RN : Hid (numRune n = if n = 0 ∨ Lib.validRune n = false then 65533 else if othAt (n - 128).toNat ≠ 0 then othAt (n - 128).toNat else n) := by
              show numRune n = _
              unfold numRune
              simp [hr.1, hr.2]
            generalize othAt (n - 128).toNat = o at *
            go_wp2_with (first | (go_at_call 181; refine (Tryz.strings_CutPrefix _ _ _).mono ?_; rintro e w1 ⟨rfl, rfl⟩) | (go_at_call 182; refine (Tryz.utf8_ValidRune _ _).mono ?_; rintro e w1 ⟨rfl, rfl⟩))
            all_goals (go_ret3; refine ⟨FIN.out _ ?_, hb.out⟩; rw [RN.out]; clear FIN RN HQ hb HG; (try clear zc); (repeat' split) <;> simp_all)
          · have RN : Hid (numRune n = if n = 0 ∨ Lib.validRune n = false then 65533 else n) := by
              show numRune n = _
              unfold numRune
              have : ¬ (128 ≤ n ∧ n ≤ 159 ∧ othAt (n - 128).toNat ≠ 0) := by omega
              rw [if_neg this]
            go_wp2_with (first | (go_at_call 181; refine (Tryz.strings_CutPrefix _ _ _).mono ?_; rintro e w1 ⟨rfl, rfl⟩) | (go_at_call 182; refine (Tryz.utf8_ValidRune _ _).mono ?_; rintro e w1 ⟨rfl, rfl⟩))
            all_goals (go_ret3; refine ⟨FIN.out _ ?_, hb.out⟩; rw [RN.out]; clear FIN RN HQ hb HG; (try clear zc); (repeat' split) <;> simp_all)
end Go.Proofs.YtpfhgolamlnhiaaGreatDoor

set_option linter.unusedVariables false
set_option linter.unusedSimpArgs false
namespace Go.Proofs.YtpfhgolamlnhiaaGreatDoor
open Go.RowKit Go.Proofs.YtpfhgolamlnhiaaGreatDoorW.PrintWords Go.Proofs.YtpfhgolamlnhiaaGreatDoor.XP

/-- Is it a letter or a digit? -/
def an (c : Nat) : Bool := (charref_alnum.f c).getD false
theorem an_some (c : Nat) : charref_alnum.f c = some (an c) := by
  unfold an charref_alnum.f
  repeat' split
  all_goals rfl
def endLoop (s : ByteArray) : Nat → Nat → Nat
  | 0, i => i
  | f + 1, i => if i < s.size ∧ an (Sv.at' s i) = true then endLoop s f (i + 1) else i
def findLoop (s : ByteArray) (attr : Bool) : Nat → Int × Int × Bool
  | 0 => (0, 0, false)
  | e + 1 => if 1 ≤ e then
      (if bsHit (s.extract 1 (e + 1)) = false then findLoop s attr e
       else if e + 1 < s.size ∧ Sv.at' s (e + 1) = 59 then ((nmAt (bs (s.extract 1 (e + 1)))).r, (e : Int) + 1 + 1, true)
       else if (nmAt (bs (s.extract 1 (e + 1)))).al = false then findLoop s attr e
       else if attr = true ∧ e + 1 < s.size ∧ (Sv.at' s (e + 1) = 61 ∨ an (Sv.at' s (e + 1)) = true) then (0, 0, false)
       else ((nmAt (bs (s.extract 1 (e + 1)))).r, (e : Int) + 1, true))
    else (0, 0, false)
def findP (s : ByteArray) (attr : Bool) : Int × Int × Bool :=
  if s.size = 0 ∨ Sv.at' s 0 ≠ 38 then (0, 0, false)
  else if Lib.hasPrefix s.data.toList [38, 35] = true then
    (if (numP (s.extract 2 s.size)).2.2 = true then ((numP (s.extract 2 s.size)).1, (numP (s.extract 2 s.size)).2.1 + 2, true) else (0, 0, false))
  else findLoop s attr (endLoop s (s.size + 1) 1)
theorem bs_hit (s : ByteArray) (h : bsHit s = true) : bs s < 59 := by
  unfold bsHit at h
  simp at h
  exact h.1
theorem numRest_le (rest : ByteArray) (i : Nat) : (numRest rest i).size ≤ rest.size := by
  have h1 : (Lib.trimPrefix (List.take (rest.size - i) (List.drop i rest.data.toList)) [59]).length ≤ rest.size := by
    unfold Lib.trimPrefix
    split <;> simp [Sv.size_list] <;> omega
  show (Lib.trimPrefix (List.take (rest.size - i) (List.drop i rest.data.toList)) [59]).toArray.size ≤ _
  rw [List.size_toArray]
  exact h1
theorem numP_bound (s : ByteArray) : 0 ≤ (numP s).2.1 ∧ (numP s).2.1 ≤ s.size := by
  have e : numP s = if (numLoop (restOf s) (baseOf s) ((restOf s).size + 1) 0 0).1 = 0 then (0, 0, false) else (numRune (numLoop (restOf s) (baseOf s) ((restOf s).size + 1) 0 0).2, (s.size : Int) - (numRest (restOf s) (numLoop (restOf s) (baseOf s) ((restOf s).size + 1) 0 0).1).size, true) := rfl
  rw [e]
  have h1 := numRest_le (restOf s) (numLoop (restOf s) (baseOf s) ((restOf s).size + 1) 0 0).1
  have h2 : (restOf s).size ≤ s.size := by unfold restOf; split <;> simp [ByteArray.size_extract]
  split
  · exact ⟨by decide, by simp⟩
  · exact ⟨by simp only; omega, by simp only; omega⟩
theorem endLoop_le (s : ByteArray) : ∀ (f i : Nat), i ≤ s.size → i ≤ endLoop s f i ∧ endLoop s f i ≤ s.size
  | 0, i, h => ⟨Nat.le_refl _, h⟩
  | f + 1, i, h => by
    unfold endLoop
    split
    · have := endLoop_le s f (i + 1) (by omega); omega
    · exact ⟨Nat.le_refl _, h⟩
set_option maxHeartbeats 8000000 in
set_option maxRecDepth 100000 in
theorem find_num (s : ByteArray) (attr : Bool) (w : World) (HG : Hid (G2 w)) (hs : s.size ≤ 4611686018427387904) (hne : ¬ s.toList = []) (hpos : 0 < s.size) (hat : Sv.at' s 0 = s[0].toNat) (hnl : s.toList.isEmpty = false) (h38 : s[0].toNat = 38) (hb38 : ((s[0].toNat : Int) != 38) = false) (hx : Lib.hasPrefix s.data.toList [38, 35] = true) :
    Calls Tryz.prog 144 #[.string s, .bool attr] w fun e w' => e = .returned (.tuple #[.int .i32 (findP s attr).1, .int .i64 (findP s attr).2.1, .bool (findP s attr).2.2]) ∧ Below w.heap.size w w' := by
  have h2 : 2 ≤ s.size := by
    have hq := List.isPrefixOf_iff_prefix.1 hx
    have := hq.length_le
    rw [Sv.size_list] at this
    exact this
  have hsz : (s.extract 2 s.size).size ≤ s.size := by rw [ByteArray.size_extract]; omega
  have HF : Hid (findP s attr = if (numP (s.extract 2 s.size)).2.2 = true then ((numP (s.extract 2 s.size)).1, (numP (s.extract 2 s.size)).2.1 + 2, true) else (0, 0, false)) := by
    show findP s attr = _
    unfold findP
    rw [if_neg (by rw [hat]; omega), if_pos hx]
  have HX := Lib.hid hx
  have hnb := numP_bound (s.extract 2 s.size)
  clear hx hat
  go_enter Tryz.func144, Tryz.ntmps144
  go_wp2_with (first | (go_at_call 107; refine (Tryz.strings_HasPrefix _ _ _).mono ?_; rintro e w1 ⟨rfl, rfl⟩; rw [HX.out]) | (go_at_call 163; refine (number_calls (s.extract 2 s.size) _ HG.out (by omega)).mono ?_; rintro e w1 ⟨rfl, hb1⟩))
  · rename_i hc
    go_ret3
    refine ⟨?_, hb1⟩
    rw [HF.out, if_neg (by intro e; rw [e] at hc; cases hc)]
    rfl
  · rename_i hc
    go_ret3
    refine ⟨?_, hb1⟩
    rw [HF.out, if_pos (by cases e : (numP (s.extract 2 s.size)).2.2 <;> simp_all)]
    rfl
end Go.Proofs.YtpfhgolamlnhiaaGreatDoor

set_option linter.unusedVariables false
set_option linter.unusedSimpArgs false
namespace Go.Proofs.YtpfhgolamlnhiaaGreatDoor
open Go.RowKit Go.Proofs.YtpfhgolamlnhiaaGreatDoorW.PrintWords Go.Proofs.YtpfhgolamlnhiaaGreatDoor.XP
theorem findLoop_eq (s : ByteArray) (attr : Bool) (e : Nat) (h : 1 < e) : findLoop s attr e =
    (if bsHit (s.extract 1 e) = false then findLoop s attr (e - 1)
     else if e < s.size ∧ Sv.at' s e = 59 then ((nmAt (bs (s.extract 1 e))).r, (e : Int) + 1, true)
     else if (nmAt (bs (s.extract 1 e))).al = false then findLoop s attr (e - 1)
     else if attr = true ∧ e < s.size ∧ (Sv.at' s e = 61 ∨ an (Sv.at' s e) = true) then (0, 0, false)
     else ((nmAt (bs (s.extract 1 e))).r, (e : Int), true)) := by
  obtain ⟨m, rfl⟩ : ∃ m, e = m + 1 := ⟨e - 1, by omega⟩
  rw [findLoop, if_pos (by omega)]
  simp only [Nat.add_sub_cancel, Int.natCast_add, Int.cast_ofNat_Int]
set_option maxHeartbeats 8000000 in
set_option maxRecDepth 100000 in
theorem find_named (s : ByteArray) (attr : Bool) (w : World) (HG : Hid (G2 w)) (hs : s.size ≤ 4611686018427387904) (hne : ¬ s.toList = []) (hpos : 0 < s.size) (hat : Sv.at' s 0 = s[0].toNat) (hnl : s.toList.isEmpty = false) (h38 : s[0].toNat = 38) (hb38 : ((s[0].toNat : Int) != 38) = false) (hx : ¬ Lib.hasPrefix s.data.toList [38, 35] = true) :
    Calls Tryz.prog 144 #[.string s, .bool attr] w fun e w' => e = .returned (.tuple #[.int .i32 (findP s attr).1, .int .i64 (findP s attr).2.1, .bool (findP s attr).2.2]) ∧ Below w.heap.size w w' := by
  have HF : Hid (findP s attr = findLoop s attr (endLoop s (s.size + 1) 1)) := by
    show findP s attr = _
    unfold findP
    rw [if_neg (by rw [hat]; omega), if_neg hx]
  have HX := Lib.hid (Bool.eq_false_iff.2 hx)
  clear hx hat
  go_enter Tryz.func144, Tryz.ntmps144
  go_upto_block 0 with (go_at_call 107; refine (Tryz.strings_HasPrefix _ _ _).mono ?_; rintro e w1 ⟨rfl, rfl⟩; rw [HX.out])
  have hE := endLoop_le s (s.size + 1) 1 (by omega)
  go_cut [10] from 35 to 46 (fun v10 wd => v10 = .int .i64 (endLoop s (s.size + 1) 1) ∧ Hid (Below w1.heap.size w1 wd))
  case first =>
    go_wp2_with fail
    go_loopw [10] (fun v10 wr => ∃ (i f : Nat), v10 = .int .i64 i ∧ i ≤ s.size ∧ s.size - i < f ∧ Hid (endLoop s f i = endLoop s (s.size + 1) 1) ∧ Hid (Below w1.heap.size w1 wr)) (fun v10 wr => s.size - (intOf v10).toNat)
    case atStart => exact ⟨1, s.size + 1, rfl, by omega, by omega, Lib.hid rfl, Lib.hid (Below.refl _ _)⟩
    case round =>
      obtain ⟨i, f, rfl, hi, hf, hgo, hb⟩ := hrel
      obtain ⟨f, rfl⟩ : ∃ m, f = m + 1 := ⟨f - 1, by omega⟩
      by_cases hlt : i < s.size
      · have hg := hgo.out
        rw [endLoop, at_get s i hlt] at hg
        have HGO := Lib.hid hg
        clear hg hgo
        have HD := an_some s[i].toNat
        generalize an s[i].toNat = b at *
        go_wp2_with (go_at_call 164; refine (charref_alnum.calls _ _ _ HD).mono ?_; rintro e w3 ⟨rfl, hd1⟩)
        · rename_i hc
          have hg := HGO.out
          rw [if_pos ⟨hlt, hc⟩] at hg
          exact ⟨⟨i + 1, f, by go_num, by omega, by omega, Lib.hid hg, Lib.hid (below_then hb.out hb.out.size hd1.below)⟩, by simp [intOf]; omega⟩
        · rename_i hc
          go_meet
          case rel =>
            have hg := HGO.out
            rw [if_neg (by rw [hc]; simp)] at hg
            exact ⟨by rw [hg], Lib.hid (below_then hb.out hb.out.size hd1.below)⟩
      · have hg := hgo.out
        rw [endLoop, if_neg (by omega)] at hg
        have HGO := Lib.hid hg
        clear hg hgo
        go_wp2_with fail
        go_meet
        case rel => exact ⟨by rw [HGO.out], hb⟩
  case rest =>
    obtain ⟨rfl, hb0⟩ := hcut
    generalize endLoop s (s.size + 1) 1 = e0 at *
    go_wp2_with fail
    go_loopw [10] (fun v10 wr => ∃ (e : Nat), v10 = .int .i64 e ∧ 1 ≤ e ∧ e ≤ s.size ∧ Hid (findLoop s attr e = findLoop s attr e0) ∧ Hid (Below w1.heap.size w1 wr)) (fun v10 wr => (intOf v10).toNat)
    case atStart => exact ⟨e0, rfl, by omega, by omega, Lib.hid rfl, hb0⟩
    case round =>
      obtain ⟨e, rfl, he1, he2, hgo, hb⟩ := hrel
      by_cases hlt : 1 < e
      · have hg := hgo.out
        rw [findLoop_eq s attr e hlt] at hg
        have G := HG.out.below hb.out
        have hle1 : (1 : Int) ≤ (e : Int) := by omega
        have hle2 : (e : Int) ≤ (s.size : Int) := by omega
        generalize hw : s.extract 1 e = wd at *
        have HGO := Lib.hid hg
        clear hg hgo
        have hbs := bs_hit wd
        have BC := bin_calls wd wr G
        generalize hm : bs wd = m at *
        have HM := Lib.hid hm
        clear hm
        cases hh : bsHit wd
        · rw [hh] at BC
          have HB := Lib.hid hh
          clear hh hbs
          go_wp2_with (go_at_call 165; (try rw [hw]); refine BC.mono ?_; rintro e w4 ⟨rfl, hb4⟩)
          have hg := HGO.out
          rw [if_pos HB.out] at hg
          exact ⟨⟨e - 1, by rw [show ((e - 1 : Nat) : Int) = (e : Int) - 1 by omega], by omega, by omega, Lib.hid hg, Lib.hid (below_then hb.out hb.out.size hb4)⟩, by simp [intOf]; omega⟩
        · have h59 := hbs hh
          rw [hh] at BC
          have HB := Lib.hid hh
          clear hh hbs
          by_cases h2 : e < s.size
          · have ha := at_get s e h2
            have HD := an_some s[e].toNat
            go_wp2_with (first | (go_at_call 165; (try rw [hw]); refine BC.mono ?_; rintro e w4 ⟨rfl, hb4⟩; have z1 := (G.below hb4).r m h59; have z2 := (G.below hb4).al m h59; rw [Nat.mul_comm 3] at z1 z2) | (go_at_call 164; refine (charref_alnum.calls _ _ _ HD).mono ?_; rintro e w3 ⟨rfl, hd1⟩; replace z1 := pw_cell_below hd1.below z1))
            all_goals
              have hg := HGO.out
              rw [if_neg (by rw [HB.out]; decide), ha] at hg
              have hbw := below_then hb.out hb.out.size hb4
            · rename_i hc
              rw [if_pos ⟨h2, by have := beq_iff_eq.1 hc; omega⟩] at hg
              go_ret3
              exact ⟨by rw [HF.out, ← hg]; rfl, hbw⟩
            · rename_i hc h5
              rw [if_neg (by have := beq_eq_false_iff_ne.1 hc; omega), if_pos (by simpa using h5)] at hg
              exact ⟨⟨e - 1, by rw [show ((e - 1 : Nat) : Int) = (e : Int) - 1 by omega], by omega, by omega, Lib.hid hg, Lib.hid hbw⟩, by simp [intOf]; omega⟩
            · rename_i hc h5 h6 h7
              rw [if_neg (by have := beq_eq_false_iff_ne.1 hc; omega), if_neg (by simpa using h5), if_pos ⟨h6, h2, .inl (by omega)⟩] at hg
              go_ret3
              exact ⟨by rw [HF.out, ← hg]; rfl, hbw⟩
            · rename_i hc h5 h6 h7 h8
              rw [if_neg (by have := beq_eq_false_iff_ne.1 hc; omega), if_neg (by simpa using h5), if_pos ⟨h6, h2, h8.imp (fun x => by have := beq_iff_eq.1 x; omega) id⟩] at hg
              go_ret3
              exact ⟨by rw [HF.out, ← hg]; rfl, below_then hbw hbw.size hd1.below⟩
            · rename_i hc h5 h6 h7 h8
              rw [if_neg (by have := beq_eq_false_iff_ne.1 hc; omega), if_neg (by simpa using h5), if_neg (fun x => by rcases x.2.2 with y | y; (have := beq_eq_false_iff_ne.1 h8.1; omega); rw [h8.2] at y; cases y)] at hg
              go_ret3
              exact ⟨by rw [HF.out, ← hg]; rfl, below_then hbw hbw.size hd1.below⟩
            · rename_i hc h5 h6
              rw [if_neg (by have := beq_eq_false_iff_ne.1 hc; omega), if_neg (by simpa using h5), if_neg (fun x => h6 x.1)] at hg
              go_ret3
              exact ⟨by rw [HF.out, ← hg]; rfl, hbw⟩
          · go_wp2_with (first | (go_at_call 165; (try rw [hw]); refine BC.mono ?_; rintro e w4 ⟨rfl, hb4⟩; have z1 := (G.below hb4).r m h59; have z2 := (G.below hb4).al m h59; rw [Nat.mul_comm 3] at z1 z2))
            all_goals
              have hg := HGO.out
              rw [if_neg (by rw [HB.out]; decide), if_neg (fun x => h2 x.1)] at hg
              have hbw := below_then hb.out hb.out.size hb4
            · rename_i h5
              rw [if_pos (by simpa using h5)] at hg
              exact ⟨⟨e - 1, by rw [show ((e - 1 : Nat) : Int) = (e : Int) - 1 by omega], by omega, by omega, Lib.hid hg, Lib.hid hbw⟩, by simp [intOf]; omega⟩
            · rename_i h5 h6
              rw [if_neg (by simpa using h5), if_neg (fun x => h2 x.2.1)] at hg
              go_ret3
              exact ⟨by rw [HF.out, ← hg]; rfl, hbw⟩
            · rename_i h5 h6
              rw [if_neg (by simpa using h5), if_neg (fun x => h6 x.1)] at hg
              go_ret3
              exact ⟨by rw [HF.out, ← hg]; rfl, hbw⟩
      · obtain rfl : e = 1 := by omega
        have hg := hgo.out
        rw [findLoop, if_neg (by omega)] at hg
        have HGO := Lib.hid hg
        clear hg hgo
        go_wp2_with fail
        go_ret3
        exact ⟨by rw [HF.out, ← HGO.out]; rfl, hb.out⟩
end Go.Proofs.YtpfhgolamlnhiaaGreatDoor

set_option linter.unusedVariables false
set_option linter.unusedSimpArgs false
namespace Go.Proofs.YtpfhgolamlnhiaaGreatDoor
open Go.RowKit Go.Proofs.YtpfhgolamlnhiaaGreatDoorW.PrintWords Go.Proofs.YtpfhgolamlnhiaaGreatDoor.XP
set_option maxHeartbeats 8000000 in
set_option maxRecDepth 100000 in
theorem find_calls (s : ByteArray) (attr : Bool) (w : World) (h2 : G2 w) (hs : s.size ≤ 4611686018427387904) :
    Calls Tryz.prog 144 #[.string s, .bool attr] w fun e w' => e = .returned (.tuple #[.int .i32 (findP s attr).1, .int .i64 (findP s attr).2.1, .bool (findP s attr).2.2]) ∧ Below w.heap.size w w' := by
  have HG := Lib.hid h2
  clear h2
  by_cases h0 : s.size = 0
  · obtain rfl : s = ⟨#[]⟩ := ByteArray.ext (Array.size_eq_zero_iff.1 h0)
    rw [show findP ⟨#[]⟩ attr = (0, 0, false) by unfold findP; rw [if_pos (.inl rfl)]]
    go_enter Tryz.func144, Tryz.ntmps144
    go_wp2_with fail
    go_ret3
    exact ⟨rfl, Below.refl _ _⟩
  have hne := ne_list s h0
  have hpos : 0 < s.size := by omega
  have hat := at_get s 0 hpos
  have hnl : s.toList.isEmpty = false := by
    cases e : s.toList
    · exact absurd e hne
    · rfl
  by_cases h38 : s[0].toNat = 38
  case neg =>
    have hb38 : ((s[0].toNat : Int) != 38) = true := by rw [bne_iff_ne]; omega
    have HF := Lib.hid (show findP s attr = (0, 0, false) by unfold findP; rw [if_pos (.inr (by rw [hat]; exact h38))])
    go_enter Tryz.func144, Tryz.ntmps144
    go_wp2_with fail
    go_ret3
    exact ⟨by rw [HF.out]; rfl, Below.refl _ _⟩
  have hb38 : ((s[0].toNat : Int) != 38) = false := by rw [bne_eq_false_iff_eq]; omega
  by_cases hx : Lib.hasPrefix s.data.toList [38, 35] = true
  · exact find_num s attr w HG hs hne hpos hat hnl h38 hb38 hx
  · exact find_named s attr w HG hs hne hpos hat hnl h38 hb38 hx
end Go.Proofs.YtpfhgolamlnhiaaGreatDoor

set_option linter.unusedVariables false
set_option linter.unusedSimpArgs false
namespace Go.Proofs.YtpfhgolamlnhiaaGreatDoor.Bld
open Go.RowKit
set_option maxHeartbeats 4000000 in
set_option maxRecDepth 100000 in
theorem WriteRune (B b : Nat) (bs : List Value) (r : Int) (hr0 : -2147483648 ≤ r) (hr1 : r ≤ 2147483647) (w : World) (h : Lib.IsBuilderF 83 5 B b bs w) (hlen : bs.length + 4 ≤ 140737488355328) (hBw : B ≤ w.heap.size) :
    Calls Tryz.prog 85 #[.pointer (some ⟨b, 0, none⟩), .int .i32 r] w fun e w' => e = .returned (.tuple #[.int .i64 (Lib.runeCells r).length, .nilIface]) ∧ (Lib.BuilderAtF 83 5 B b (.pointer (some ⟨b, 0, none⟩)) (bs ++ Lib.runeCells r) w' ∧ Below B w w' ∧ Lib.OthersKept 5 (some b) w w') := by
  have hk4 := Lib.runeCells_le r
  go_enter Tryz.func85, Tryz.ntmps85
  go_wp2_with (go_at_call 94; refine (copyCheck B b bs _ h).mono ?_)
  rintro e w1 ⟨rfl, h1, hb1, hk1⟩
  obtain ⟨hB, v, hbk, hown, hne⟩ := h1
  obtain ⟨ao, cap, rfl⟩ : ∃ ao cap, v = .slice ao bs.length cap := by
    rcases hown.2 with ⟨hv, h0⟩ | ⟨g, cap, cur, fz, hv, _⟩
    · exact ⟨none, 0, by rw [hv, h0]⟩
    · exact ⟨_, _, hv⟩
  have c0 : w1.cell? ⟨b, 0, none⟩ = some (.pointer (some ⟨b, 0, none⟩)) := by rw [Lib.cell_of_heap hbk]; rfl
  have c1 : w1.cell? ⟨b, 1, none⟩ = some (.slice ao bs.length cap) := by rw [Lib.cell_of_heap hbk]; rfl
  go_wp2_with (go_at_call 100; refine (Tryz.utf8_AppendRune_row B _ bs.length bs r hr0 hr1 _ hown hlen (by have := hb1.size; omega)).mono ?_)
  rintro e w2 ⟨v', rfl, hown', o, hgrow⟩
  have hlt : b < w1.heap.size := by
    rcases Nat.lt_or_ge b w1.heap.size with h' | h'
    · exact h'
    · simp [Array.getElem?_eq_none h'] at hbk
  have hb2 : w2.heap[b]? = some (.cells #[.pointer (some ⟨b, 0, none⟩), .slice ao bs.length cap] 83 (0, 0)) := by
    rw [hgrow.block b (by simp; omega) (fun e => hne e.symm), Lib.alloc_old w1 _ b hlt]
    exact hbk
  have d0 : w2.cell? ⟨b, 0, none⟩ = some (.pointer (some ⟨b, 0, none⟩)) := by rw [Lib.cell_of_heap hb2]; rfl
  have d1 : w2.cell? ⟨b, 1, none⟩ = some (.slice ao bs.length cap) := by rw [Lib.cell_of_heap hb2]; rfl
  have f1 : w2.frozen? ⟨b, 1, none⟩ = false := Lib.frozen_of_heap hb2 1
  obtain ⟨g, cap', rfl⟩ : ∃ g cap', v' = .slice (some ⟨g, 0, none⟩) (bs.length + (Lib.runeCells r).length) cap' := by
    rcases hown'.2 with ⟨_, h0⟩ | ⟨g, cap', cur, fz, hv, _⟩
    · omega
    · exact ⟨g, cap', hv⟩
  go_wp2
  go_ret2
  refine ⟨?_, ?_, ?_, ((hk1.alloc _).grown hgrow (Lib.ownsRowF_kind (hown.alloc _))).setCell ⟨b, 1, none⟩ rfl _⟩
  · have e : ((bs.length : Int) + ((Lib.runeCells r).length : Int) - (bs.length : Int)) = ((Lib.runeCells r).length : Int) := by omega
    simp [e]
  · exact Lib.BuilderAtF.put (T := 83) (e := 5) hB hb2 (bs' := bs ++ Lib.runeCells r) (by simpa using hown') neB5
  · exact ((hb1.alloc (by have := hb1.size; omega) _).grown hgrow (by have := hb1.size; simp; omega) (fun k hk => (hown.lt k hk).1)).setCell (p := ⟨b, 1, none⟩) hB _
end Go.Proofs.YtpfhgolamlnhiaaGreatDoor.Bld

set_option linter.unusedVariables false
namespace Go.Proofs.YtpfhgolamlnhiaaGreatDoor
open Go.RowKit Go.Proofs.YtpfhgolamlnhiaaGreatDoorW.PrintWords Go.Proofs.YtpfhgolamlnhiaaGreatDoor.XT Go.Proofs.YtpfhgolamlnhiaaGreatDoor.XA

abbrev Nd := S38
abbrev At := S40

/-- A piece put behind; no answer where that would be too long for any machine. -/
def wr (acc s : List UInt8) : Option (List UInt8) := if acc.length + s.length ≤ 70368744177664 then some (acc ++ s) else none
/-- A text's escaping; no answer where the text is too long. -/
def escO (attr : Bool) (s : ByteArray) : Option (List UInt8) := if s.size ≤ 4398046511104 then some (Sv.esc attr s.data.toList) else none
/-- An attribute's piece. -/
def attrS (a : At) : Option (List UInt8) := if a.f0.size ≤ 4398046511104 then (escO true a.f1).bind fun v => some ([32] ++ a.f0.data.toList ++ [61, 34] ++ v ++ [34]) else none
def attrsS : List UInt8 → List At → Option (List UInt8)
  | acc, [] => some acc
  | acc, a :: t => (attrS a).bind fun p => (wr acc p).bind fun acc => attrsS acc t
/-- What stands ahead of a node's children. -/
def headS (n : Nd) (acc : List UInt8) : Option (List UInt8) :=
  if n.f0 = 2 then (escO false n.f3).bind fun p => wr acc p
  else if n.f0 = 1 then if n.f1.size ≤ 4398046511104 then (wr acc ([60] ++ n.f1.data.toList)).bind fun acc => (attrsS acc n.f2).bind fun acc => wr acc [62] else none
  else some acc
/-- What stands behind them. -/
def footS (k : Nat) (n : Nd) (acc : List UInt8) : Option (List UInt8) :=
  if n.f0 = 1 then (tree_Kind.f k n.f1).bind fun d => if d < 7 then if n.f1.size ≤ 4398046511104 then wr acc ([60, 47] ++ n.f1.data.toList ++ [62]) else none else some acc
  else some acc
def kidsS (g : List UInt8 → Int → Option (List UInt8)) : List UInt8 → List Int → Option (List UInt8)
  | acc, [] => some acc
  | acc, c :: t => (g acc c).bind fun acc => kidsS g acc t
/-- A node and all below it; the first number bounds the depth. -/
def putS (k : Nat) (t : List Nd) : Nat → List UInt8 → Int → Option (List UInt8)
  | 0, _, _ => none
  | f + 1, acc, i =>
    if (acc.length : Int) > 65536 then some acc
    else if 0 ≤ i then if i < (t.length : Int) then (headS (rd_T38 t i) acc).bind fun acc => (kidsS (putS k t f) acc (rd_T38 t i).f5).bind fun acc => footS k (rd_T38 t i) acc else none else none

end Go.Proofs.YtpfhgolamlnhiaaGreatDoor

set_option linter.unusedVariables false
set_option linter.unusedSimpArgs false
namespace Go.Proofs.YtpfhgolamlnhiaaGreatDoor
open Go.RowKit Go.Proofs.YtpfhgolamlnhiaaGreatDoorW.PrintWords Go.Proofs.YtpfhgolamlnhiaaGreatDoor.XT Go.Proofs.YtpfhgolamlnhiaaGreatDoor.XA

theorem ret_num {k : IntKind} {a b : Int} (h : a = b) : Ending.returned (.int k a) = .returned (.int k b) := by rw [h]
theorem ret_yes {a b : Bool} (h : a = b) : Ending.returned (.bool a) = .returned (.bool b) := by rw [h]

abbrev Att := S40
/-- The first place of an attribute of a name. -/
def idxN (nm : List UInt8) : List Att → Nat → Int
  | [], _ => -1
  | b :: t, i => if b.f0.toList = nm then i else idxN nm t (i + 1)
theorem idxN_range (nm : List UInt8) : ∀ (l : List Att) (i : Nat), idxN nm l i = -1 ∨ 0 ≤ idxN nm l i
  | [], i => .inl rfl
  | b :: t, i => by
    unfold idxN
    split
    · right; omega
    · exact idxN_range nm t (i + 1)
theorem idxN_any (nm : List UInt8) : ∀ (l : List Att) (i : Nat), (decide (0 ≤ idxN nm l i)) = l.any (fun b => b.f0.toList == nm)
  | [], i => rfl
  | b :: t, i => by
    unfold idxN
    by_cases h : b.f0.toList = nm
    · simp [h]
    · rw [if_neg h, idxN_any nm t (i + 1)]; simp [h]

/-- The closure: has an attribute the captured one's name? -/
theorem attrs1_any (b : Att) (g : Nat) (nm : ByteArray) (w : World) (hc : w.cell? ⟨g, 0, none⟩ = some (.string nm)) :
    Calls Tryz.prog 119 #[.agg #[.string b.f0, .string b.f1], .pointer (some ⟨g, 0, none⟩)] w fun e w' => e = .returned (.bool (b.f0.toList == nm.toList)) ∧ Below w.heap.size w w' := by
  have hu := Tryz.underlying40
  have hg : g < w.heap.size := World.block_lt_of_cell? w _ hc
  go_enter Tryz.func119, Tryz.ntmps119
  go_wp2
  go_ret
  exact ⟨rfl, below_alloc (Below.refl _ _) _⟩

theorem drop_rd (l : List Att) (i : Nat) (h : i < l.length) : l.drop i = rd_T40 l (i : Int) :: l.drop (i + 1) := by
  rw [List.drop_eq_getElem_cons h]
  congr 1
  unfold rd_T40
  simp [List.getD_eq_getElem?_getD, h]

set_option maxHeartbeats 1000000 in
set_option maxRecDepth 100000 in
theorem indexA (A : Option Addr) (c : Nat) (l : List Att) (g : Nat) (nm : ByteArray) (w : World) (hr : Kd.C k40 w A l.length l) (hc : w.cell? ⟨g, 0, none⟩ = some (.string nm)) :
    Calls Tryz.prog 143 #[.slice A l.length c, .func (.func 119) #[] #[.pointer (some ⟨g, 0, none⟩)]] w fun e w' => e = .returned (.int .i64 (idxN nm.toList l 0)) ∧ Below w.heap.size w w' := by
  have hu := Tryz.underlying40
  have hlen : l.length ≤ 9223372036854775807 := hr.2.1
  have HR := Lib.hid hr
  have HC := Lib.hid hc
  clear hr hc
  go_enter Tryz.func143, Tryz.ntmps143
  go_wp2
  go_loopw [8] (fun v wr => ∃ i : Nat, v = .int .i64 i ∧ i ≤ l.length ∧ Hid (idxN nm.toList (l.drop i) i = idxN nm.toList l 0) ∧ Hid (Below w.heap.size w wr)) (fun v wr => l.length - (intOf v).toNat)
  case atStart => exact ⟨0, rfl, Nat.zero_le _, Lib.hid rfl, Lib.hid (Below.refl _ _)⟩
  case round =>
    obtain ⟨i, rfl, hi, hid, hbw⟩ := hrel
    by_cases hlt : i < l.length
    · obtain ⟨ad, rfl, c0, c1⟩ := at_T40 (Kd.C_below HR.out hbw.out) (i : Int) (by omega) (by omega)
      simp only [Int.toNat_natCast] at c0 c1
      have hd := drop_rd l i hlt
      generalize rd_T40 l (i : Int) = b at c0 c1 hd
      have hcg : wr.cell? ⟨g, 0, none⟩ = some (.string nm) := pw_cell_below hbw.out HC.out
      by_cases he : b.f0.toList = nm.toList
      · have hb : (b.f0.toList == nm.toList) = true := by simp [he]
        have HE : Hid (idxN nm.toList (l.drop i) i = i) := Lib.hid (by rw [hd, idxN, if_pos he])
        clear he hd
        go_wp2_with (go_at_call 119; refine (attrs1_any b g nm _ hcg).mono ?_; rintro e w1 ⟨rfl, hb1⟩)
        go_ret
        exact ⟨ret_num (by rw [← hid.out, HE.out]), below_then hbw.out hbw.out.size hb1⟩
      · have hb : (b.f0.toList == nm.toList) = false := by simp [he]
        have HE : Hid (idxN nm.toList (l.drop i) i = idxN nm.toList (l.drop (i + 1)) (i + 1)) := Lib.hid (by rw [hd, idxN, if_neg he])
        clear he hd
        go_wp2_with (go_at_call 119; refine (attrs1_any b g nm _ hcg).mono ?_; rintro e w1 ⟨rfl, hb1⟩)
        go_roundw
        case rel => exact ⟨i + 1, by go_num, by omega, Lib.hid (by rw [← HE.out]; exact hid.out), Lib.hid (below_then hbw.out hbw.out.size hb1)⟩
        case measure => simp [intOf]; omega
    · obtain rfl : i = l.length := by omega
      have HE : Hid (idxN nm.toList l 0 = -1) := Lib.hid (by rw [← hid.out, List.drop_length]; rfl)
      go_wp2
      go_ret
      exact ⟨ret_num HE.out.symm, hbw.out⟩

set_option maxHeartbeats 1000000 in
set_option maxRecDepth 100000 in
theorem containsA (A : Option Addr) (c : Nat) (l : List Att) (g : Nat) (nm : ByteArray) (w : World) (hr : Kd.C k40 w A l.length l) (hc : w.cell? ⟨g, 0, none⟩ = some (.string nm)) :
    Calls Tryz.prog 118 #[.slice A l.length c, .func (.func 119) #[] #[.pointer (some ⟨g, 0, none⟩)]] w fun e w' => e = .returned (.bool (l.any fun b => b.f0.toList == nm.toList)) ∧ Below w.heap.size w w' := by
  have HF := Lib.hid (indexA A c l g nm w hr hc)
  have HA := Lib.hid (idxN_any nm.toList l 0)
  clear hr hc
  go_enter Tryz.func118, Tryz.ntmps118
  go_wp2_with (go_at_call 143; refine HF.out.mono ?_; rintro e w1 ⟨rfl, hb1⟩)
  go_ret
  exact ⟨ret_yes HA.out, hb1⟩

/-- What attrs answers: the attributes one by one; 'seen': those ahead. -/
def x_attrs.g (k : Nat) : List Att → List Att → Option Bool
  | _, [] => some true
  | seen, a :: t => (tree_named.f k a.f0).bind fun b1 => if b1 = true then ((tree_well.f a.f1).bind fun b2 => if b2 = true then (if (seen.any fun b => b.f0.toList == a.f0.toList) = true then some false else x_attrs.g k (seen ++ [a]) t) else some false) else some false
def x_attrs.f (k : Nat) (l : List Att) : Option Bool := (x_attrs.g k [] l).bind fun b => if b = true then some (decide ((l.length : Int) ≤ 16)) else some false
theorem x_attrs.mono_g (k : Nat) : ∀ (t seen : List Att), LeO (x_attrs.g k seen t) (x_attrs.g (k + 1) seen t)
  | [], seen => LeO.refl _
  | a :: t, seen => by
    unfold x_attrs.g
    refine LeO.bind (tree_named.mono _ _) (fun b1 => LeO.ite (LeO.bind (LeO.refl _) (fun b2 => LeO.ite (LeO.ite (LeO.refl _) (x_attrs.mono_g k t _)) (LeO.refl _))) (LeO.refl _))
theorem x_attrs.mono : ∀ (a0 : List Att) (k : Nat), LeO (x_attrs.f k a0) (x_attrs.f (k + 1) a0) := fun a0 k => LeO.bind (x_attrs.mono_g k a0 []) (fun _ => LeO.refl _)

set_option maxHeartbeats 4000000 in
set_option maxRecDepth 100000 in
theorem x_attrs.calls (k : Nat) (A0 : Option Addr) (c0 : Nat) (l0 : List Att) (r : Bool) (w : World) (hr0 : Kd.C k40 w A0 l0.length l0) (hc0 : l0.length ≤ c0) (h : x_attrs.f k l0 = some r) (hG1 : G1 w) :
    Calls Tryz.prog 91 #[.slice A0 l0.length c0] w fun e w' => e = .returned (.bool r) ∧ Below w.heap.size w w' := by
  have hu := Tryz.underlying40
  have hlen : l0.length ≤ 9223372036854775807 := hr0.2.1
  have HR := Lib.hid hr0
  have HH := Lib.hid h
  have HG := Lib.hid hG1
  clear hr0 h hG1
  go_enter Tryz.func91, Tryz.ntmps91
  go_wp2
  go_loopw [7] (fun v wr => ∃ i : Nat, v = .int .i64 i ∧ i ≤ l0.length ∧ Hid ((x_attrs.g k (l0.take i) (l0.drop i)).bind (fun b => if b = true then some (decide ((l0.length : Int) ≤ 16)) else some false) = some r) ∧ Hid (Below w.heap.size w wr)) (fun v wr => l0.length - (intOf v).toNat)
  case atStart => exact ⟨0, rfl, Nat.zero_le _, HH, Lib.hid (Below.refl _ _)⟩
  case round =>
    obtain ⟨i, rfl, hi, hid, hbw⟩ := hrel
    by_cases hlt : i < l0.length
    · obtain ⟨ad, rfl, e0, e1⟩ := at_T40 (Kd.C_below HR.out hbw.out) (i : Int) (by omega) (by omega)
      simp only [Int.toNat_natCast] at e0 e1
      have hd := drop_rd l0 i hlt
      have htk : l0.take (i + 1) = l0.take i ++ [rd_T40 l0 (i : Int)] := by
        rw [List.take_add_one]
        congr 1
        unfold rd_T40
        simp [List.getD_eq_getElem?_getD, hlt]
      generalize rd_T40 l0 (i : Int) = b at e0 e1 hd htk
      have H := hid.out
      rw [hd, x_attrs.g] at H
      clear hd
      have htk := Lib.hid htk
      cases hn : tree_named.f k b.f0 with
      | none => rw [hn] at H; simp at H
      | some b1 =>
      rw [hn, Option.bind_some] at H
      have HN := Lib.hid hn
      clear hn
      cases b1 with
      | false =>
        simp only [Bool.false_eq_true, if_false, Option.bind_some] at H
        obtain rfl := Option.some.inj H
        clear H
        go_wp2_with (go_at_call 117; refine (tree_named.calls k b.f0 false _ HN.out).mono ?_; rintro e w1 ⟨rfl, ⟨nd, rfl⟩⟩)
        go_ret
        exact ⟨rfl, pw_below_drewN (hbw.out.alloc hbw.out.size _) nd⟩
      | true =>
        simp only [if_true] at H
        cases hw : tree_well.f b.f1 with
        | none => rw [hw] at H; simp at H
        | some b2 =>
        rw [hw, Option.bind_some] at H
        have HW := Lib.hid hw
        clear hw
        cases b2 with
        | false =>
          simp only [Bool.false_eq_true, if_false, Option.bind_some] at H
          obtain rfl := Option.some.inj H
          clear H
          go_wp2_with (first | (go_at_call 117; refine (tree_named.calls k b.f0 true _ HN.out).mono ?_; rintro e w1 ⟨rfl, ⟨nd, rfl⟩⟩) | (go_at_call 90; refine (tree_well.calls b.f1 false _ HW.out (HG.out.below (pw_below_drewN (hbw.out.alloc hbw.out.size _) nd))).mono ?_; rintro e w2 ⟨rfl, hb2⟩))
          go_ret
          exact ⟨rfl, below_then (pw_below_drewN (hbw.out.alloc hbw.out.size _) nd) (Nat.le_trans hbw.out.size (by simp)) hb2⟩
        | true =>
          simp only [if_true] at H
          have HH2 := Lib.hid H
          clear H
          go_wp2_with (first | (go_at_call 117; refine (tree_named.calls k b.f0 true _ HN.out).mono ?_; rintro e w1 ⟨rfl, ⟨nd, rfl⟩⟩) | (go_at_call 90; refine (tree_well.calls b.f1 true _ HW.out (HG.out.below (pw_below_drewN (hbw.out.alloc hbw.out.size _) nd))).mono ?_; rintro e w2 ⟨rfl, hb2⟩))
          have hb1 : Below w.heap.size w ((wr.alloc (.cells #[.string b.f0, .string b.f1] 40)).drewN nd) := pw_below_drewN (hbw.out.alloc hbw.out.size _) nd
          have hbT : Below w.heap.size w w2 := below_then hb1 (Nat.le_trans hbw.out.size (by simp)) hb2
          have hcell : w2.cell? ⟨wr.heap.size, 0, none⟩ = some (.string b.f0) := pw_cell_below hb2 (by simp)
          have hcon := containsA (some ad) c0 (l0.take i) wr.heap.size b.f0 w2 (Kd.C_take (Kd.C_below HR.out hbT) (by omega)) hcell
          rw [List.length_take, Nat.min_eq_left hi] at hcon
          cases ha : (l0.take i).any (fun z => z.f0.toList == b.f0.toList) with
          | true =>
            rw [ha] at hcon
            have H := HH2.out
            rw [ha] at H
            simp only [if_true, Option.bind_some, Bool.false_eq_true, if_false] at H
            obtain rfl := Option.some.inj H
            clear H ha
            refine hcon.mono ?_
            clear hcon hcell
            rintro e w3 ⟨rfl, hb3⟩
            go_wp2
            go_ret
            exact ⟨rfl, below_then hbT hbT.size hb3⟩
          | false =>
            rw [ha] at hcon
            have H := HH2.out
            rw [ha] at H
            simp only [Bool.false_eq_true, if_false] at H
            have H3 : Hid ((x_attrs.g k (l0.take (i + 1)) (l0.drop (i + 1))).bind (fun b => if b = true then some (decide ((l0.length : Int) ≤ 16)) else some false) = some r) := Lib.hid (by rw [htk.out]; exact H)
            clear H ha
            refine hcon.mono ?_
            clear hcon hcell
            rintro e w3 ⟨rfl, hb3⟩
            go_wp2
            go_roundw
            case rel => exact ⟨i + 1, by go_num, by omega, H3, Lib.hid (below_then hbT hbT.size hb3)⟩
            case measure => simp [intOf]; omega
    · obtain rfl : i = l0.length := by omega
      have H := hid.out
      rw [List.drop_length, x_attrs.g] at H
      have HE := Lib.hid (Option.some.inj H)
      clear H
      go_wp2
      go_ret
      exact ⟨ret_yes HE.out, hbw.out⟩

end Go.Proofs.YtpfhgolamlnhiaaGreatDoor

set_option linter.unusedVariables false
set_option linter.unusedSimpArgs false
namespace Go.Proofs.YtpfhgolamlnhiaaGreatDoor
open Go.RowKit Go.Proofs.YtpfhgolamlnhiaaGreatDoorW.PrintWords Go.Proofs.YtpfhgolamlnhiaaGreatDoor.XT Go.Proofs.YtpfhgolamlnhiaaGreatDoor.XA

/-- A builder of the call's own at block b that holds the bytes l. -/
def Bl (B b : Nat) (l : List UInt8) (w : World) : Prop := Lib.IsBuilderF 83 5 B b (Lib.byteCells l) w
def OK5 (b : Nat) (w w' : World) : Prop := Lib.OthersKept 5 (some b) w w'
theorem Bl.below {B b : Nat} {l : List UInt8} {w w' : World} (h : Bl B b l w) (hb : Below w.heap.size w w') : Bl B b l w' := by
  have key : ∀ p, Lib.BuilderAtF 83 5 B b p (Lib.byteCells l) w → Lib.BuilderAtF 83 5 B b p (Lib.byteCells l) w' := by
    intro p h
    have hlt := h.lt
    obtain ⟨hB, v, hk, hown, hne⟩ := h
    exact ⟨hB, v, (hb.block b hlt).trans hk, hown.kept (grown_of_below hb none) (by cases v.ownBlock <;> simp), hne⟩
  exact h.elim (fun x => .inl (key _ x)) (fun x => .inr (key _ x))
theorem OK5.of_below {b : Nat} {w w' : World} (hb : Below w.heap.size w w') : OK5 b w w' := fun k o hk _ _ => (hb.block k (Array.getElem?_eq_some_iff.1 hk).1).trans hk
theorem OK5.at_ {b k t : Nat} {cs : Array Value} {w w' : World} (h : OK5 b w w') (hk : w.heap[k]? = some (.cells cs t (0, 0))) (hb : k ≠ b) (ht : t ≠ 5) : w'.heap[k]? = some (.cells cs t (0, 0)) :=
  h k _ hk (fun e => hb (Option.some.inj e)) (fun c fz e => by injection e with _ e2 _; exact ht e2)
theorem Bl.size_lt {B b : Nat} {l : List UInt8} {w : World} (h : Bl B b l w) : b < w.heap.size := h.elim (fun x => x.lt) (fun x => x.lt)

theorem len_any (B b : Nat) (l : List UInt8) (w : World) (h : Bl B b l w) :
    Calls Tryz.prog 59 #[.pointer (some ⟨b, 0, none⟩)] w fun e w' => e = .returned (.int .i64 (l.length : Int)) ∧ w = w' := by
  refine (Tryz.Builder_Len_f B b _ w h).mono ?_
  rintro e w' ⟨rfl, rfl⟩
  exact ⟨by rw [Lib.byteCells_length], rfl⟩
theorem write_any (B b : Nat) (acc : List UInt8) (s : ByteArray) (r : List UInt8) (w : World) (h : Bl B b acc w) (hB : B ≤ w.heap.size) (hw : wr acc s.data.toList = some r) :
    Calls Tryz.prog 60 #[.pointer (some ⟨b, 0, none⟩), .string s] w fun e w' => e = .returned (.tuple #[.int .i64 s.size, .nilIface]) ∧ Bl B b r w' ∧ Below B w w' ∧ OK5 b w w' := by
  unfold wr at hw
  split at hw
  · obtain rfl := Option.some.inj hw
    rename_i hl
    rw [Sv.size_list] at hl
    refine (Bld.WriteString B b _ s w h (by rw [Lib.byteCells_length]; omega) hB).mono ?_
    rintro e w' ⟨rfl, h1, h2, h3⟩
    refine ⟨rfl, ?_, h2, h3⟩
    have e : Lib.byteCells (acc ++ s.data.toList) = Lib.byteCells acc ++ Lib.strCells s := by
      rw [Lib.byteCells_append]; rfl
    unfold Bl
    rw [e]
    exact .inr h1
  · cases hw

/-- The world at the call, and where the three boxes lie. -/
structure W0 where
  w : World
  bx : Nat
  bb : Nat
  bf : Nat
  lo : w.heap.size ≤ bx
  h1 : bx < bb
  h2 : bb < bf
/-- What stands in memory while nodes are put. -/
structure PInv (w0 : W0) (A : Option Addr) (c : Nat) (t : List Nd) (acc : List UInt8) (w : World) : Prop where
  bel : Below w0.w.heap.size w0.w w
  box : w.heap[w0.bx]? = some (.cells #[.slice A t.length c] 28 (0, 0))
  bld : Bl w0.w.heap.size (w0.bb) acc w
  fn : w.heap[w0.bf]? = some (.cells #[.func (.func 58) #[] #[.pointer (some ⟨w0.bb, 0, none⟩), .pointer (some ⟨w0.bx, 0, none⟩), .pointer (some ⟨w0.bf, 0, none⟩)]] 84 (0, 0))
theorem PInv.below {w0 : W0} {A : Option Addr} {c : Nat} {t : List Nd} {acc : List UInt8} {w w' : World} (h : PInv w0 A c t acc w) (hb : Below w.heap.size w w') : PInv w0 A c t acc w' :=
  ⟨below_then h.bel h.bel.size hb, (hb.block _ (blk_lt h.box)).trans h.box, h.bld.below hb, (hb.block _ (blk_lt h.fn)).trans h.fn⟩
theorem PInv.wrote {w0 : W0} {A : Option Addr} {c : Nat} {t : List Nd} {acc r : List UInt8} {w w' : World} (h : PInv w0 A c t acc w) (hb : Bl w0.w.heap.size (w0.bb) r w') (h2 : Below w0.w.heap.size w w') (h3 : OK5 (w0.bb) w w') : PInv w0 A c t r w' :=
  ⟨h.bel.trans h2, h3.at_ h.box (by have := w0.h1; omega) (by decide), hb, h3.at_ h.fn (by have := w0.h2; omega) (by decide)⟩
theorem PInv.size {w0 : W0} {A : Option Addr} {c : Nat} {t : List Nd} {acc : List UInt8} {w : World} (h : PInv w0 A c t acc w) : w0.w.heap.size + 2 < w.heap.size ∧ w0.bf < w.heap.size ∧ w0.bb < w0.bf ∧ w0.bx < w0.bb ∧ w0.w.heap.size ≤ w0.bx := by
  have := blk_lt h.fn; have := w0.lo; have := w0.h1; have := w0.h2; omega

/-- What a call on a node leaves. -/
def PPost (w0 : W0) (A : Option Addr) (c : Nat) (t : List Nd) (r : List UInt8) (w : World) (e : Ending) (w' : World) : Prop :=
  e = .returned (.tuple #[]) ∧ PInv w0 A c t r w' ∧ OK5 (w0.bb) w w'

end Go.Proofs.YtpfhgolamlnhiaaGreatDoor

set_option linter.unusedVariables false
set_option linter.unusedSimpArgs false
namespace Go.Proofs.YtpfhgolamlnhiaaGreatDoor
open Go.RowKit Go.Proofs.YtpfhgolamlnhiaaGreatDoorW.PrintWords

def decGo (attr : Bool) : Nat → ByteArray → List UInt8 → Option (List UInt8)
  | 0, _, _ => none
  | k + 1, s, acc =>
    if Lib.indexByte s.data.toList 38 < 0 then wr acc s.data.toList
    else if Lib.indexByte s.data.toList 38 + 1 ≤ s.size then
      (wr acc (s.extract 0 (Lib.indexByte s.data.toList 38).toNat).data.toList).bind fun acc1 =>
        if (findP (s.extract (Lib.indexByte s.data.toList 38).toNat s.size) attr).2.2 = true then
          (if -2147483648 ≤ (findP (s.extract (Lib.indexByte s.data.toList 38).toNat s.size) attr).1 ∧ (findP (s.extract (Lib.indexByte s.data.toList 38).toNat s.size) attr).1 ≤ 2147483647 ∧ 0 ≤ Lib.indexByte s.data.toList 38 + (findP (s.extract (Lib.indexByte s.data.toList 38).toNat s.size) attr).2.1 ∧ Lib.indexByte s.data.toList 38 + (findP (s.extract (Lib.indexByte s.data.toList 38).toNat s.size) attr).2.1 ≤ s.size then
            (wr acc1 (Lib.encodeRune (findP (s.extract (Lib.indexByte s.data.toList 38).toNat s.size) attr).1)).bind fun acc2 => decGo attr k (s.extract (Lib.indexByte s.data.toList 38 + (findP (s.extract (Lib.indexByte s.data.toList 38).toNat s.size) attr).2.1).toNat s.size) acc2
          else none)
        else (wr acc1 [38]).bind fun acc2 => decGo attr k (s.extract (Lib.indexByte s.data.toList 38 + 1).toNat s.size) acc2
    else none

theorem wr_len {acc l r : List UInt8} (h : wr acc l = some r) : r = acc ++ l ∧ acc.length + l.length ≤ 70368744177664 := by
  unfold wr at h
  split at h
  · exact ⟨(Option.some.inj h).symm, ‹_›⟩
  · cases h
theorem rune_any (B b : Nat) (acc r : List UInt8) (c : Int) (w : World) (h : Bl B b acc w) (hB : B ≤ w.heap.size) (h0 : -2147483648 ≤ c) (h1 : c ≤ 2147483647) (hw : wr acc (Lib.encodeRune c) = some r) :
    Calls Tryz.prog 85 #[.pointer (some ⟨b, 0, none⟩), .int .i32 c] w fun e w' => e = .returned (.tuple #[.int .i64 (Lib.runeCells c).length, .nilIface]) ∧ Bl B b r w' ∧ Below B w w' := by
  obtain ⟨rfl, hl⟩ := wr_len hw
  refine (Bld.WriteRune B b _ c h0 h1 w h (by rw [Lib.byteCells_length]; omega) hB).mono ?_
  rintro e w' ⟨rfl, h1, h2, h3⟩
  refine ⟨rfl, ?_, h2⟩
  have e : Lib.byteCells (acc ++ Lib.encodeRune c) = Lib.byteCells acc ++ Lib.runeCells c := by rw [Lib.byteCells_append, Lib.byteCells_encodeRune]
  unfold Bl
  rw [e]
  exact .inr h1
theorem byte_any (B b : Nat) (acc r : List UInt8) (w : World) (h : Bl B b acc w) (hB : B ≤ w.heap.size) (hw : wr acc [38] = some r) :
    Calls Tryz.prog 84 #[.pointer (some ⟨b, 0, none⟩), .int .u8 38] w fun e w' => e = .returned .nilIface ∧ Bl B b r w' ∧ Below B w w' := by
  obtain ⟨rfl, hl⟩ := wr_len hw
  refine (Bld.WriteByte B b _ 38 w h (by rw [Lib.byteCells_length]; omega) hB).mono ?_
  rintro e w' ⟨rfl, h1, h2, h3⟩
  refine ⟨rfl, ?_, h2⟩
  have e : Lib.byteCells (acc ++ [38]) = Lib.byteCells acc ++ [.int .u8 38] := by rw [Lib.byteCells_append]; rfl
  unfold Bl
  rw [e]
  exact .inr h1

set_option maxHeartbeats 8000000 in
set_option maxRecDepth 100000 in
theorem decode_calls (k : Nat) (attr : Bool) (s : ByteArray) (r : List UInt8) (w : World) (h : decGo attr k s [] = some r) (hs : s.size ≤ 4611686018427387904) (h2 : G2 w) :
    Calls Tryz.prog 125 #[.string s, .bool attr] w fun e w' => e = .returned (.string ⟨r.toArray⟩) ∧ Below w.heap.size w w' := by
  have HG := Lib.hid h2
  have HH := Lib.hid h
  clear h2 h
  go_enter Tryz.func125, Tryz.ntmps125
  go_wp2_with fail
  go_loopg [0] k (fun kq v0 wr_ => ∃ (s' : ByteArray) (acc : List UInt8), v0 = .string s' ∧ s'.size ≤ 4611686018427387904 ∧ Hid (decGo attr kq s' acc = some r) ∧ Hid (Bl w.heap.size w.heap.size acc wr_) ∧ Hid (Below w.heap.size w wr_))
  case atStart => exact ⟨s, [], rfl, hs, HH, Lib.hid (Lib.IsBuilderF.of (Lib.fresh_isBuilder _ _ w)), Lib.hid (below_alloc (Below.refl _ _) _)⟩
  case round =>
    obtain ⟨s', acc, rfl, hs', hd, hB, hb⟩ := hrel
    cases gk with
    | zero => have := hd.out; simp [decGo] at this
    | succ k3 =>
      have hsz := hb.out.size
      have hg := hd.out
      rw [decGo] at hg
      clear hd
      have IB := fun (w : World) => Tryz.strings_IndexByte s' 38 w
      rw [show (38 : Int).toNat.toUInt8 = 38 from rfl] at IB
      generalize Lib.indexByte s'.data.toList 38 = ix at *
      by_cases hneg : ix < 0
      · rw [if_pos hneg] at hg
        have HG' := Lib.hid hg
        clear hg
        go_wp2_with (first | (go_at_call 86; refine (IB _).mono ?_; rintro e w1 ⟨rfl, rfl⟩) | (go_at_call 60; refine (write_any _ _ acc _ r _ hB.out hsz HG'.out).mono ?_; rintro e w2 ⟨rfl, hB2, hb2, -⟩) | (go_at_call 61; refine (Tryz.Builder_String_any_k _ _ r _ hB2 (by have := hb2.size; omega)).mono ?_; rintro e w3 ⟨rfl, -, hb3, -⟩))
        go_ret
        exact ⟨rfl, (hb.out.trans hb2).trans hb3⟩
      · rw [if_neg hneg] at hg
        split at hg
        case isFalse => cases hg
        rename_i hi
        obtain ⟨i, rfl⟩ := Int.eq_ofNat_of_zero_le (show 0 ≤ ix by omega)
        simp only [Int.toNat_natCast] at hg
        have hi2 : i ≤ s'.size := by omega
        have hxs : (s'.extract i s'.size).size ≤ 4611686018427387904 := by rw [ByteArray.size_extract]; omega
        have FC := fun (w : World) (h2 : G2 w) => find_calls (s'.extract i s'.size) attr w h2 hxs
        generalize findP (s'.extract i s'.size) attr = p at *
        obtain ⟨pr, pn, pok⟩ := p
        obtain ⟨acc1, h1, hg⟩ := Option.bind_eq_some_iff.1 hg
        have H1 := Lib.hid h1
        clear h1
        dsimp only at hg FC
        cases pok
        · rw [if_neg (by decide)] at hg
          obtain ⟨acc2, h2, hg⟩ := Option.bind_eq_some_iff.1 hg
          have H2 := Lib.hid h2
          have H3 := Lib.hid hg
          clear h2 hg hneg
          go_wp2_with (first | (go_at_call 86; refine (IB _).mono ?_; rintro e w1 ⟨rfl, rfl⟩) | (go_at_call 60; refine (write_any _ _ acc _ acc1 _ hB.out hsz H1.out).mono ?_; rintro e w2 ⟨rfl, hB2, hb2, -⟩) | (go_at_call 144; refine (FC _ (HG.out.below (hb.out.trans hb2))).mono ?_; rintro e w3 ⟨rfl, hb3⟩; have hB3 := hB2.below hb3) | (go_at_call 84; refine (byte_any _ _ acc1 acc2 _ hB3 (by have := hb2.size; have := hb3.size; omega) H2.out).mono ?_; rintro e w4 ⟨rfl, hB4, hb4⟩))
          have hb4' := ((hb.out.trans hb2).trans (below_then (Below.refl _ _) (hb.out.trans hb2).size hb3)).trans hb4
          go_roundg k3
          case measure => omega
          case rel => exact ⟨_, acc2, rfl, by rw [ByteArray.size_extract]; omega, H3, Lib.hid hB4, Lib.hid hb4'⟩
        · rw [if_pos rfl] at hg
          split at hg
          case isFalse => cases hg
          rename_i hr
          obtain ⟨hr0, hr1, hr2, hr3⟩ := hr
          obtain ⟨acc2, h2, hg⟩ := Option.bind_eq_some_iff.1 hg
          have H2 := Lib.hid h2
          have H3 := Lib.hid hg
          clear h2 hg hneg
          go_wp2_with (first | (go_at_call 86; refine (IB _).mono ?_; rintro e w1 ⟨rfl, rfl⟩) | (go_at_call 60; refine (write_any _ _ acc _ acc1 _ hB.out hsz H1.out).mono ?_; rintro e w2 ⟨rfl, hB2, hb2, -⟩) | (go_at_call 144; refine (FC _ (HG.out.below (hb.out.trans hb2))).mono ?_; rintro e w3 ⟨rfl, hb3⟩; have hB3 := hB2.below hb3) | (go_at_call 85; refine (rune_any _ _ acc1 acc2 pr _ hB3 (by have := hb2.size; have := hb3.size; omega) hr0 hr1 H2.out).mono ?_; rintro e w4 ⟨rfl, hB4, hb4⟩))
          have hb4' := ((hb.out.trans hb2).trans (below_then (Below.refl _ _) (hb.out.trans hb2).size hb3)).trans hb4
          go_roundg k3
          case measure => omega
          case rel => exact ⟨_, acc2, rfl, by rw [ByteArray.size_extract]; omega, H3, Lib.hid hB4, Lib.hid hb4'⟩
end Go.Proofs.YtpfhgolamlnhiaaGreatDoor

set_option linter.unusedVariables false
namespace Go.Proofs.YtpfhgolamlnhiaaGreatDoor
open Go.RowKit Go.Proofs.YtpfhgolamlnhiaaGreatDoorW.PrintWords

theorem decGo_mono (attr : Bool) : ∀ (k : Nat) (s : ByteArray) (acc : List UInt8), LeO (decGo attr k s acc) (decGo attr (k + 1) s acc)
  | 0, s, acc => LeO.none _
  | k + 1, s, acc => by
    rw [decGo, decGo]
    refine LeO.ite (LeO.refl _) (LeO.ite (LeO.bind (LeO.refl _) (fun a => LeO.ite (LeO.ite (LeO.bind (LeO.refl _) (fun b => decGo_mono attr k _ _)) (LeO.refl _)) (LeO.bind (LeO.refl _) (fun b => decGo_mono attr k _ _)))) (LeO.refl _))
def x_Decode.f (k : Nat) (a0 : ByteArray) (a1 : Bool) : Option ByteArray := if a0.size ≤ 4611686018427387904 then (decGo a1 k a0 []).bind fun l => some ⟨l.toArray⟩ else none
theorem x_Decode.mono : ∀ (a0 : ByteArray) (a1 : Bool) (k : Nat), LeO (x_Decode.f k a0 a1) (x_Decode.f (k + 1) a0 a1) := fun a0 a1 k =>
  LeO.ite (LeO.bind (decGo_mono a1 k a0 []) (fun _ => LeO.refl _)) (LeO.refl _)
theorem x_Decode.calls (k : Nat) (a0 : ByteArray) (a1 : Bool) (r : ByteArray) (w : World) (h : x_Decode.f k a0 a1 = some r) (hG2 : G2 w) :
    Calls Tryz.prog 125 #[.string a0, .bool a1] w fun e w' => e = .returned (.string r) ∧ Below w.heap.size w w' := by
  unfold x_Decode.f at h
  split at h
  · obtain ⟨l, hl, h⟩ := Option.bind_eq_some_iff.1 h
    obtain rfl := Option.some.inj h
    exact decode_calls k a1 a0 l w hl ‹_› hG2
  · cases h
end Go.Proofs.YtpfhgolamlnhiaaGreatDoor
