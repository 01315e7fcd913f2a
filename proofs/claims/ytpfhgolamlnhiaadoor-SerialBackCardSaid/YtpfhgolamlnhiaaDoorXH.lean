-- Written by wip/tools/px.py for this claim, by way of the kit's print of the translation. Lean checks it.
import Derived.Test.YtpfhgolamlnhiaaDoorXT
import Derived.Test.YtpfhgolamlnhiaaDoorXA
import Derived.Test.YtpfhgolamlnhiaaDoorXB1
import Derived.Test.YtpfhgolamlnhiaaDoorXC
import Derived.Test.YtpfhgolamlnhiaaDoorXF
import Derived.Test.YtpfhgolamlnhiaaDoorExt1
import Derived.Test.YtpfhgolamlnhiaaDoorChar
namespace Go.Proofs.YtpfhgolamlnhiaaDoor.XH
open Go.RowKit Go.Proofs.YtpfhgolamlnhiaaDoor Go.Proofs.YtpfhgolamlnhiaaDoor.XT Go.Proofs.YtpfhgolamlnhiaaDoor.XA Go.Proofs.YtpfhgolamlnhiaaDoor.XB Go.Proofs.YtpfhgolamlnhiaaDoor.XC Go.Proofs.YtpfhgolamlnhiaaDoor.XF Go.Proofs.YtpfhgolamlnhiaaDoorW.PrintWords Go.Proofs.YtpfhgolamlnhiaaDoorW.PrintLast Go.Proofs.YtpfhgolamlnhiaaDoorW.PrintMore
attribute [local go_sem] max2_int min2_int max_two min_two max_three min_three max_four min_four   -- for this text's walks alone
set_option linter.unusedVariables false
set_option linter.unusedSimpArgs false

end Go.Proofs.YtpfhgolamlnhiaaDoor.XH

namespace Go.Proofs.YtpfhgolamlnhiaaDoor.XH
open Go.RowKit Go.Proofs.YtpfhgolamlnhiaaDoor Go.Proofs.YtpfhgolamlnhiaaDoor.XT Go.Proofs.YtpfhgolamlnhiaaDoor.XA Go.Proofs.YtpfhgolamlnhiaaDoor.XB Go.Proofs.YtpfhgolamlnhiaaDoor.XC Go.Proofs.YtpfhgolamlnhiaaDoor.XF Go.Proofs.YtpfhgolamlnhiaaDoorW.PrintWords Go.Proofs.YtpfhgolamlnhiaaDoorW.PrintLast Go.Proofs.YtpfhgolamlnhiaaDoorW.PrintMore
attribute [local go_sem] max2_int min2_int max_two min_two max_three min_three max_four min_four   -- for this text's walks alone
set_option linter.unusedVariables false
set_option linter.unusedSimpArgs false

/-! ### selvedgelaw06_SerialBack: function 6 -/
def selvedgelaw06_SerialBack.j0 : Nat → ByteArray → Bool → Option (Bool)
 | 0, _, _ => none
 | k + 1, x0, x10 => if x10 = true then ((selvedgelaw06_works.f k).bind fun t102 => (some t102)) else ((x_Escape.f x0).bind fun t103 => ((x_Decode.f k t103 false).bind fun t104 => (if t104.toList = x0.toList then ((x_EscapeAttr.f x0).bind fun t105 => ((x_Decode.f k t105 true).bind fun t106 => (if t106.toList = x0.toList then ((selvedgelaw06_works.f k).bind fun t107 => (some t107)) else (some false)))) else (some false))))
def selvedgelaw06_SerialBack.f (k : Nat) (a0 : ByteArray) : Option (Bool) := if (a0.size : Int) > 3000 then (selvedgelaw06_SerialBack.j0 k a0 true) else ((selvedgeref05_Well.f k a0).bind fun t101 => (selvedgelaw06_SerialBack.j0 k a0 (!t101)))
theorem selvedgelaw06_SerialBack.mono_l : ∀ k, (∀ y0 y1, LeO (selvedgelaw06_SerialBack.j0 k y0 y1) (selvedgelaw06_SerialBack.j0 (k + 1) y0 y1))
 | 0 => fun _ _ r h => by simp [selvedgelaw06_SerialBack.j0] at h
 | k + 1 => by
  have ih0 := selvedgelaw06_SerialBack.mono_l k
  ·intro y0 y1
   unfold selvedgelaw06_SerialBack.j0
   repeat' first
   | (with_reducible exact ih0 _ _)
   | (with_reducible exact selvedgelaw06_works.mono _)
   | (with_reducible exact selvedgeref05_Well.mono _ _)
   | (with_reducible exact x_Decode.mono _ _ _)
   | (with_reducible exact LeO.refl _)
   | (with_reducible exact LeO.none _)
   | (with_reducible refine LeO.ite ?_ ?_)
   | (with_reducible refine LeO.bind ?_ (fun _ => ?_))
   | exact ih0 _ _
   | exact selvedgelaw06_works.mono _
   | exact selvedgeref05_Well.mono _ _
   | exact x_Decode.mono _ _ _
   | exact LeO.none _
   | refine LeO.ite ?_ ?_
   | refine LeO.bind ?_ (fun _ => ?_)
theorem selvedgelaw06_SerialBack.mono : ∀ a0 k, LeO (selvedgelaw06_SerialBack.f k a0) (selvedgelaw06_SerialBack.f (k + 1) a0) := by
 intro a0 k
 have ih0 := selvedgelaw06_SerialBack.mono_l k
 unfold selvedgelaw06_SerialBack.f
 repeat' first
   | (with_reducible exact ih0 _ _)
   | (with_reducible exact selvedgelaw06_works.mono _)
   | (with_reducible exact selvedgeref05_Well.mono _ _)
   | (with_reducible exact x_Decode.mono _ _ _)
   | (with_reducible exact LeO.refl _)
   | (with_reducible exact LeO.none _)
   | (with_reducible refine LeO.ite ?_ ?_)
   | (with_reducible refine LeO.bind ?_ (fun _ => ?_))
   | exact ih0 _ _
   | exact selvedgelaw06_works.mono _
   | exact selvedgeref05_Well.mono _ _
   | exact x_Decode.mono _ _ _
   | exact LeO.none _
   | refine LeO.ite ?_ ?_
   | refine LeO.bind ?_ (fun _ => ?_)
set_option maxHeartbeats 80000000 in
set_option maxRecDepth 100000 in
theorem selvedgelaw06_SerialBack.calls (k : Nat) (a0 : ByteArray) (r : Bool) (w : World) (h : selvedgelaw06_SerialBack.f k a0 = some r) (hG1 : G1 w) (hG2 : G2 w) :
  Calls Tryd.prog 6 #[.string a0] w fun e w' => e = .returned (.bool r) ∧ Below w.heap.size w w' := by
 have HB := Aside0.mk (Below.refl w.heap.size w)
 have H : (if (a0.size : Int) > 3000 then (selvedgelaw06_SerialBack.j0 k a0 true) else ((selvedgeref05_Well.f k a0).bind fun t101 => (selvedgelaw06_SerialBack.j0 k a0 (!t101)))) = some r := h
 clear h
 have HC2 := Aside0.mk H
 clear H
 go_enter Tryd.func6, Tryd.ntmps6
 go_upto_region 1 with (fail)
 go_cut [10] (fun v10 wc => ∃ (kq : Nat) (x10_1 : Bool), v10 = .bool x10_1 ∧ Aside0 (selvedgelaw06_SerialBack.j0 kq a0 x10_1 = some r) ∧ Aside0 (kq ≤ k) ∧ Aside0 (Below w.heap.size w wc))
 case first =>
  have H := HC2.out
  clear HC2
  by_cases c3 : (a0.size : Int) > 3000
  ·rw [if_pos c3] at H
   have c3b0 : decide (3000 < (a0.size : Int)) = true := decide_eq_true c3
   have c3b1 : decide (3000 < a0.size) = true := decide_eq_true (by omega)
   clear c3
   (first | rw [c3b0] | (simp only [i64_w, i32_w]; rw [c3b0]) | skip)
   have H' := Aside0.mk H
   clear H
   go_wp2
   go_meet
   case rel => exact ⟨_, (true), (by first | rfl | (simp; done) | (simp [*]; done) | (simp [bne, List.isEmpty_iff]; done) | (simp [bne, List.isEmpty_iff, *]; done) | (simp [bne]; rfl)), H', ⟨by first | omega | exact Nat.le_refl _⟩, ⟨by repeat (first | (with_reducible first | exact HB.out | apply below_alloc | apply pw_below_drewN | apply below_drew1) | exact HB.out)⟩⟩
  ·rw [if_neg c3] at H
   have c3b0 : decide (3000 < (a0.size : Int)) = false := decide_eq_false c3
   have c3b1 : decide (3000 < a0.size) = false := decide_eq_false (by omega)
   clear c3
   (first | rw [c3b0] | (simp only [i64_w, i32_w]; rw [c3b0]) | skip)
   replace H := Option.bind_eq_some_iff.mp H
   obtain ⟨t101, A40, H⟩ := H
   replace H : (selvedgelaw06_SerialBack.j0 k a0 (!t101)) = some r := H
   have A4 := Aside0.mk A40
   clear A40
   have H' := Aside0.mk H
   clear H
   go_wp2_with (first | (go_at_call 14; (with_reducible refine (selvedgeref05_Well.calls k a0 t101 _ A4.out).mono ?_); rintro e w5 ⟨rfl, hb⟩; have n0_ := Aside0.mk (below_step (by repeat (first | (with_reducible first | exact HB.out | apply below_alloc | apply pw_below_drewN | apply below_drew1) | exact HB.out)) hb); clear HB; have HB := n0_; clear n0_; (try clear hb); (try clear hb2); (try clear hk); (try clear hi)))
   go_meet
   case rel => exact ⟨_, (!t101), (by first | rfl | (simp; done) | (simp [*]; done) | (simp [bne, List.isEmpty_iff]; done) | (simp [bne, List.isEmpty_iff, *]; done) | (simp [bne]; rfl)), H', ⟨by first | omega | exact Nat.le_refl _⟩, ⟨by repeat (first | (with_reducible first | exact HB.out | apply below_alloc | apply pw_below_drewN | apply below_drew1) | exact HB.out)⟩⟩
 case rest =>
  clear HC2
  try clear p2
  try clear c3
  try clear c3b0
  try clear c3b1
  obtain ⟨kq, x10_1, rfl, HA, HJ1, HB⟩ := hcut
  cases kq with
  | zero => exact absurd HA.out (by simp [selvedgelaw06_SerialBack.j0])
  | succ kj1 =>
   have H := HA.out
   clear HA
   simp only [selvedgelaw06_SerialBack.j0] at H
   by_cases c6 : x10_1 = true
   ·subst c6
    have H1 : ((selvedgelaw06_works.f kj1).bind fun t102 => (some t102)) = some r := by rw [if_pos rfl] at H; exact H
    clear H
    have H := H1
    clear H1
    replace H := Option.bind_eq_some_iff.mp H
    obtain ⟨t102, A70, H⟩ := H
    replace H : (some t102) = some r := H
    have A7 := Aside0.mk A70
    clear A70
    obtain rfl := Option.some.inj H
    go_wp2_with (first | ((with_reducible refine gate_callee (f := 12) rfl ?_); refine goesL_ (some 11) rfl rfl Tryd.func12 (by kernel_rfl) rfl #[] rfl (by (try simp only [List.map_toArray, List.map_cons, List.map_nil]); first | done | rfl | (simp only [List.length_drop, List.length_take]; rfl)) ?_; (with_reducible refine (selvedgelaw06_works.calls kj1  t102 _ A7.out (by first | exact hG1 | exact G1.below hG1 (by assumption) | exact G1.below hG1 HB.out | (apply G1.below hG1; repeat (first | (with_reducible first | exact HB.out | apply below_alloc | apply pw_below_drewN | apply below_drew1 | exact Below.refl _ _) | exact HB.out | exact Below.refl _ _)) | (have hd_ := ‹Aside0 (Drawn0 _ _)›.out.below; exact G1.below hG1 hd_))).mono ?_); rintro e w8 ⟨rfl, hb⟩; refine ⟨_, rfl, ?_⟩; have n0_ := Aside0.mk (below_step (by repeat (first | (with_reducible first | exact HB.out | apply below_alloc | apply pw_below_drewN | apply below_drew1) | exact HB.out)) hb); clear HB; have HB := n0_; clear n0_; (try clear hb); (try clear hb2); (try clear hk); (try clear hi)))
    go_ret
    exact ⟨by first | rfl | (simp [errW_none, errW_some] <;> rfl) | (simp [*, errW_none, errW_some] <;> rfl), by repeat (first | (with_reducible first | exact HB.out | apply below_alloc | apply pw_below_drewN | apply below_drew1) | exact HB.out)⟩
   ·replace c6 := Bool.eq_false_iff.mpr c6
    subst c6
    have H1 : ((x_Escape.f a0).bind fun t103 => ((x_Decode.f kj1 t103 false).bind fun t104 => (if t104.toList = a0.toList then ((x_EscapeAttr.f a0).bind fun t105 => ((x_Decode.f kj1 t105 true).bind fun t106 => (if t106.toList = a0.toList then ((selvedgelaw06_works.f kj1).bind fun t107 => (some t107)) else (some false)))) else (some false)))) = some r := by rw [if_neg (show ¬ (false = true) by decide)] at H; exact H
    clear H
    have H := H1
    clear H1
    replace H := Option.bind_eq_some_iff.mp H
    obtain ⟨t103, A90, H⟩ := H
    replace H : ((x_Decode.f kj1 t103 false).bind fun t104 => (if t104.toList = a0.toList then ((x_EscapeAttr.f a0).bind fun t105 => ((x_Decode.f kj1 t105 true).bind fun t106 => (if t106.toList = a0.toList then ((selvedgelaw06_works.f kj1).bind fun t107 => (some t107)) else (some false)))) else (some false))) = some r := H
    have A9 := Aside0.mk A90
    clear A90
    replace H := Option.bind_eq_some_iff.mp H
    obtain ⟨t104, A100, H⟩ := H
    replace H : (if t104.toList = a0.toList then ((x_EscapeAttr.f a0).bind fun t105 => ((x_Decode.f kj1 t105 true).bind fun t106 => (if t106.toList = a0.toList then ((selvedgelaw06_works.f kj1).bind fun t107 => (some t107)) else (some false)))) else (some false)) = some r := H
    have A10 := Aside0.mk A100
    clear A100
    by_cases c11 : t104.toList = a0.toList
    ·rw [if_pos c11] at H
     have c11b0 : (t104.toList == a0.toList) = true := beq_iff_eq.mpr c11
     have c11b1 : (t104.toList != a0.toList) = false := bne_eq_false_iff_eq.mpr c11
     clear c11
     replace H := Option.bind_eq_some_iff.mp H
     obtain ⟨t105, A120, H⟩ := H
     replace H : ((x_Decode.f kj1 t105 true).bind fun t106 => (if t106.toList = a0.toList then ((selvedgelaw06_works.f kj1).bind fun t107 => (some t107)) else (some false))) = some r := H
     have A12 := Aside0.mk A120
     clear A120
     replace H := Option.bind_eq_some_iff.mp H
     obtain ⟨t106, A130, H⟩ := H
     replace H : (if t106.toList = a0.toList then ((selvedgelaw06_works.f kj1).bind fun t107 => (some t107)) else (some false)) = some r := H
     have A13 := Aside0.mk A130
     clear A130
     by_cases c14 : t106.toList = a0.toList
     ·rw [if_pos c14] at H
      have c14b0 : (t106.toList == a0.toList) = true := beq_iff_eq.mpr c14
      have c14b1 : (t106.toList != a0.toList) = false := bne_eq_false_iff_eq.mpr c14
      clear c14
      replace H := Option.bind_eq_some_iff.mp H
      obtain ⟨t107, A150, H⟩ := H
      replace H : (some t107) = some r := H
      have A15 := Aside0.mk A150
      clear A150
      obtain rfl := Option.some.inj H
      go_wp2_with (first | ((with_reducible refine gate_callee (f := 9) rfl ?_); refine goesL_ (some 13) rfl rfl Tryd.func9 (by kernel_rfl) rfl #[.string a0] rfl (by (try simp only [List.map_toArray, List.map_cons, List.map_nil]); first | done | rfl | (simp only [List.length_drop, List.length_take]; rfl)) ?_; (with_reducible refine (x_Escape.calls a0 t103 _ A9.out).mono ?_); rintro e w16 ⟨rfl, hb⟩; refine ⟨_, rfl, ?_⟩; have n0_ := Aside0.mk (below_step (by repeat (first | (with_reducible first | exact HB.out | apply below_alloc | apply pw_below_drewN | apply below_drew1) | exact HB.out)) hb); clear HB; have HB := n0_; clear n0_; (try clear hb); (try clear hb2); (try clear hk); (try clear hi)) | ((with_reducible refine gate_callee (f := 15) rfl ?_); refine goesL_ (some 14) rfl rfl Tryd.func15 (by kernel_rfl) rfl #[.string t103, .bool false] rfl (by (try simp only [List.map_toArray, List.map_cons, List.map_nil]); first | done | rfl | (simp only [List.length_drop, List.length_take]; rfl)) ?_; (with_reducible refine (x_Decode.calls kj1 t103 false t104 _ A10.out (by first | exact hG2 | exact G2.below hG2 (by assumption) | exact G2.below hG2 HB.out | (apply G2.below hG2; repeat (first | (with_reducible first | exact HB.out | apply below_alloc | apply pw_below_drewN | apply below_drew1 | exact Below.refl _ _) | exact HB.out | exact Below.refl _ _)) | (have hd_ := ‹Aside0 (Drawn0 _ _)›.out.below; exact G2.below hG2 hd_))).mono ?_); rintro e w17 ⟨rfl, hb⟩; refine ⟨_, rfl, ?_⟩; have n0_ := Aside0.mk (below_step (by repeat (first | (with_reducible first | exact HB.out | apply below_alloc | apply pw_below_drewN | apply below_drew1) | exact HB.out)) hb); clear HB; have HB := n0_; clear n0_; (try clear hb); (try clear hb2); (try clear hk); (try clear hi)) | (go_at_call 11; (with_reducible refine (x_EscapeAttr.calls a0 t105 _ A12.out).mono ?_); rintro e w18 ⟨rfl, hb⟩; have n0_ := Aside0.mk (below_step (by repeat (first | (with_reducible first | exact HB.out | apply below_alloc | apply pw_below_drewN | apply below_drew1) | exact HB.out)) hb); clear HB; have HB := n0_; clear n0_; (try clear hb); (try clear hb2); (try clear hk); (try clear hi)) | (go_at_call 15; (with_reducible refine (x_Decode.calls kj1 t105 true t106 _ A13.out (by first | exact hG2 | exact G2.below hG2 (by assumption) | exact G2.below hG2 HB.out | (apply G2.below hG2; repeat (first | (with_reducible first | exact HB.out | apply below_alloc | apply pw_below_drewN | apply below_drew1 | exact Below.refl _ _) | exact HB.out | exact Below.refl _ _)) | (have hd_ := ‹Aside0 (Drawn0 _ _)›.out.below; exact G2.below hG2 hd_))).mono ?_); rintro e w19 ⟨rfl, hb⟩; have n0_ := Aside0.mk (below_step (by repeat (first | (with_reducible first | exact HB.out | apply below_alloc | apply pw_below_drewN | apply below_drew1) | exact HB.out)) hb); clear HB; have HB := n0_; clear n0_; (try clear hb); (try clear hb2); (try clear hk); (try clear hi)) | (go_at_call 12; (with_reducible refine (selvedgelaw06_works.calls kj1  t107 _ A15.out (by first | exact hG1 | exact G1.below hG1 (by assumption) | exact G1.below hG1 HB.out | (apply G1.below hG1; repeat (first | (with_reducible first | exact HB.out | apply below_alloc | apply pw_below_drewN | apply below_drew1 | exact Below.refl _ _) | exact HB.out | exact Below.refl _ _)) | (have hd_ := ‹Aside0 (Drawn0 _ _)›.out.below; exact G1.below hG1 hd_))).mono ?_); rintro e w20 ⟨rfl, hb⟩; have n0_ := Aside0.mk (below_step (by repeat (first | (with_reducible first | exact HB.out | apply below_alloc | apply pw_below_drewN | apply below_drew1) | exact HB.out)) hb); clear HB; have HB := n0_; clear n0_; (try clear hb); (try clear hb2); (try clear hk); (try clear hi)))
      go_ret
      exact ⟨by first | rfl | (simp [errW_none, errW_some] <;> rfl) | (simp [*, errW_none, errW_some] <;> rfl), by repeat (first | (with_reducible first | exact HB.out | apply below_alloc | apply pw_below_drewN | apply below_drew1) | exact HB.out)⟩
     ·rw [if_neg c14] at H
      have c14b0 : (t106.toList == a0.toList) = false := beq_eq_false_iff_ne.mpr c14
      have c14b1 : (t106.toList != a0.toList) = true := bne_iff_ne.mpr c14
      obtain rfl := Option.some.inj H
      go_wp2_with (first | ((with_reducible refine gate_callee (f := 9) rfl ?_); refine goesL_ (some 13) rfl rfl Tryd.func9 (by kernel_rfl) rfl #[.string a0] rfl (by (try simp only [List.map_toArray, List.map_cons, List.map_nil]); first | done | rfl | (simp only [List.length_drop, List.length_take]; rfl)) ?_; (with_reducible refine (x_Escape.calls a0 t103 _ A9.out).mono ?_); rintro e w21 ⟨rfl, hb⟩; refine ⟨_, rfl, ?_⟩; have n0_ := Aside0.mk (below_step (by repeat (first | (with_reducible first | exact HB.out | apply below_alloc | apply pw_below_drewN | apply below_drew1) | exact HB.out)) hb); clear HB; have HB := n0_; clear n0_; (try clear hb); (try clear hb2); (try clear hk); (try clear hi)) | ((with_reducible refine gate_callee (f := 15) rfl ?_); refine goesL_ (some 14) rfl rfl Tryd.func15 (by kernel_rfl) rfl #[.string t103, .bool false] rfl (by (try simp only [List.map_toArray, List.map_cons, List.map_nil]); first | done | rfl | (simp only [List.length_drop, List.length_take]; rfl)) ?_; (with_reducible refine (x_Decode.calls kj1 t103 false t104 _ A10.out (by first | exact hG2 | exact G2.below hG2 (by assumption) | exact G2.below hG2 HB.out | (apply G2.below hG2; repeat (first | (with_reducible first | exact HB.out | apply below_alloc | apply pw_below_drewN | apply below_drew1 | exact Below.refl _ _) | exact HB.out | exact Below.refl _ _)) | (have hd_ := ‹Aside0 (Drawn0 _ _)›.out.below; exact G2.below hG2 hd_))).mono ?_); rintro e w22 ⟨rfl, hb⟩; refine ⟨_, rfl, ?_⟩; have n0_ := Aside0.mk (below_step (by repeat (first | (with_reducible first | exact HB.out | apply below_alloc | apply pw_below_drewN | apply below_drew1) | exact HB.out)) hb); clear HB; have HB := n0_; clear n0_; (try clear hb); (try clear hb2); (try clear hk); (try clear hi)) | (go_at_call 11; (with_reducible refine (x_EscapeAttr.calls a0 t105 _ A12.out).mono ?_); rintro e w23 ⟨rfl, hb⟩; have n0_ := Aside0.mk (below_step (by repeat (first | (with_reducible first | exact HB.out | apply below_alloc | apply pw_below_drewN | apply below_drew1) | exact HB.out)) hb); clear HB; have HB := n0_; clear n0_; (try clear hb); (try clear hb2); (try clear hk); (try clear hi)) | (go_at_call 15; (with_reducible refine (x_Decode.calls kj1 t105 true t106 _ A13.out (by first | exact hG2 | exact G2.below hG2 (by assumption) | exact G2.below hG2 HB.out | (apply G2.below hG2; repeat (first | (with_reducible first | exact HB.out | apply below_alloc | apply pw_below_drewN | apply below_drew1 | exact Below.refl _ _) | exact HB.out | exact Below.refl _ _)) | (have hd_ := ‹Aside0 (Drawn0 _ _)›.out.below; exact G2.below hG2 hd_))).mono ?_); rintro e w24 ⟨rfl, hb⟩; have n0_ := Aside0.mk (below_step (by repeat (first | (with_reducible first | exact HB.out | apply below_alloc | apply pw_below_drewN | apply below_drew1) | exact HB.out)) hb); clear HB; have HB := n0_; clear n0_; (try clear hb); (try clear hb2); (try clear hk); (try clear hi)))
      go_ret
      exact ⟨by first | rfl | (simp [errW_none, errW_some] <;> rfl) | (simp [*, errW_none, errW_some] <;> rfl), by repeat (first | (with_reducible first | exact HB.out | apply below_alloc | apply pw_below_drewN | apply below_drew1) | exact HB.out)⟩
    ·rw [if_neg c11] at H
     have c11b0 : (t104.toList == a0.toList) = false := beq_eq_false_iff_ne.mpr c11
     have c11b1 : (t104.toList != a0.toList) = true := bne_iff_ne.mpr c11
     obtain rfl := Option.some.inj H
     go_wp2_with (first | ((with_reducible refine gate_callee (f := 9) rfl ?_); refine goesL_ (some 13) rfl rfl Tryd.func9 (by kernel_rfl) rfl #[.string a0] rfl (by (try simp only [List.map_toArray, List.map_cons, List.map_nil]); first | done | rfl | (simp only [List.length_drop, List.length_take]; rfl)) ?_; (with_reducible refine (x_Escape.calls a0 t103 _ A9.out).mono ?_); rintro e w25 ⟨rfl, hb⟩; refine ⟨_, rfl, ?_⟩; have n0_ := Aside0.mk (below_step (by repeat (first | (with_reducible first | exact HB.out | apply below_alloc | apply pw_below_drewN | apply below_drew1) | exact HB.out)) hb); clear HB; have HB := n0_; clear n0_; (try clear hb); (try clear hb2); (try clear hk); (try clear hi)) | ((with_reducible refine gate_callee (f := 15) rfl ?_); refine goesL_ (some 14) rfl rfl Tryd.func15 (by kernel_rfl) rfl #[.string t103, .bool false] rfl (by (try simp only [List.map_toArray, List.map_cons, List.map_nil]); first | done | rfl | (simp only [List.length_drop, List.length_take]; rfl)) ?_; (with_reducible refine (x_Decode.calls kj1 t103 false t104 _ A10.out (by first | exact hG2 | exact G2.below hG2 (by assumption) | exact G2.below hG2 HB.out | (apply G2.below hG2; repeat (first | (with_reducible first | exact HB.out | apply below_alloc | apply pw_below_drewN | apply below_drew1 | exact Below.refl _ _) | exact HB.out | exact Below.refl _ _)) | (have hd_ := ‹Aside0 (Drawn0 _ _)›.out.below; exact G2.below hG2 hd_))).mono ?_); rintro e w26 ⟨rfl, hb⟩; refine ⟨_, rfl, ?_⟩; have n0_ := Aside0.mk (below_step (by repeat (first | (with_reducible first | exact HB.out | apply below_alloc | apply pw_below_drewN | apply below_drew1) | exact HB.out)) hb); clear HB; have HB := n0_; clear n0_; (try clear hb); (try clear hb2); (try clear hk); (try clear hi)))
     go_ret
     exact ⟨by first | rfl | (simp [errW_none, errW_some] <;> rfl) | (simp [*, errW_none, errW_some] <;> rfl), by repeat (first | (with_reducible first | exact HB.out | apply below_alloc | apply pw_below_drewN | apply below_drew1) | exact HB.out)⟩

end Go.Proofs.YtpfhgolamlnhiaaDoor.XH

namespace Go.Proofs.YtpfhgolamlnhiaaDoor.XH
open Go.RowKit Go.Proofs.YtpfhgolamlnhiaaDoor Go.Proofs.YtpfhgolamlnhiaaDoor.XT Go.Proofs.YtpfhgolamlnhiaaDoor.XA Go.Proofs.YtpfhgolamlnhiaaDoor.XB Go.Proofs.YtpfhgolamlnhiaaDoor.XC Go.Proofs.YtpfhgolamlnhiaaDoor.XF Go.Proofs.YtpfhgolamlnhiaaDoorW.PrintWords Go.Proofs.YtpfhgolamlnhiaaDoorW.PrintLast Go.Proofs.YtpfhgolamlnhiaaDoorW.PrintMore
attribute [local go_sem] max2_int min2_int max_two min_two max_three min_three max_four min_four   -- for this text's walks alone
set_option linter.unusedVariables false
set_option linter.unusedSimpArgs false

end Go.Proofs.YtpfhgolamlnhiaaDoor.XH
