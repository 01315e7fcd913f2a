-- Written by wip/tools/px.py for this claim, by way of the kit's print of the translation. Lean checks it.
import Derived.Test.YtpfhgolamlnhiaaDoorXT
import Derived.Test.YtpfhgolamlnhiaaDoorXA
import Derived.Test.YtpfhgolamlnhiaaDoorXB1
import Derived.Test.YtpfhgolamlnhiaaDoorXC
import Derived.Test.YtpfhgolamlnhiaaDoorExt1
namespace Go.Proofs.YtpfhgolamlnhiaaDoor.XD
open Go.RowKit Go.Proofs.YtpfhgolamlnhiaaDoor Go.Proofs.YtpfhgolamlnhiaaDoor.XT Go.Proofs.YtpfhgolamlnhiaaDoor.XA Go.Proofs.YtpfhgolamlnhiaaDoor.XB Go.Proofs.YtpfhgolamlnhiaaDoor.XC Go.Proofs.YtpfhgolamlnhiaaDoorW.PrintWords Go.Proofs.YtpfhgolamlnhiaaDoorW.PrintLast Go.Proofs.YtpfhgolamlnhiaaDoorW.PrintMore
attribute [local go_sem] max2_int min2_int max_two min_two max_three min_three max_four min_four   -- for this text's walks alone
set_option linter.unusedVariables false
set_option linter.unusedSimpArgs false

end Go.Proofs.YtpfhgolamlnhiaaDoor.XD

namespace Go.Proofs.YtpfhgolamlnhiaaDoor.XD
open Go.RowKit Go.Proofs.YtpfhgolamlnhiaaDoor Go.Proofs.YtpfhgolamlnhiaaDoor.XT Go.Proofs.YtpfhgolamlnhiaaDoor.XA Go.Proofs.YtpfhgolamlnhiaaDoor.XB Go.Proofs.YtpfhgolamlnhiaaDoor.XC Go.Proofs.YtpfhgolamlnhiaaDoorW.PrintWords Go.Proofs.YtpfhgolamlnhiaaDoorW.PrintLast Go.Proofs.YtpfhgolamlnhiaaDoorW.PrintMore
attribute [local go_sem] max2_int min2_int max_two min_two max_three min_three max_four min_four   -- for this text's walks alone
set_option linter.unusedVariables false
set_option linter.unusedSimpArgs false

/-! ### selvedgelaw06_SerialEscapes: function 3 -/
def selvedgelaw06_SerialEscapes.f (k : Nat) (a0 : ByteArray) : Option (Bool) := if (a0.size : Int) > 5000 then ((selvedgelaw06_works.f k).bind fun t101 => (some t101)) else ((x_Escape.f a0).bind fun t102 => ((selvedgeref06_Escape.f k a0 false).bind fun t103 => (if t102.toList = t103.toList then ((x_EscapeAttr.f a0).bind fun t104 => ((selvedgeref06_Escape.f k a0 true).bind fun t105 => (if t104.toList = t105.toList then ((selvedgelaw06_works.f k).bind fun t106 => (some t106)) else (some false)))) else (some false))))
theorem selvedgelaw06_SerialEscapes.mono : ∀ a0 k, LeO (selvedgelaw06_SerialEscapes.f k a0) (selvedgelaw06_SerialEscapes.f (k + 1) a0) := by
 intro a0 k
 unfold selvedgelaw06_SerialEscapes.f
 repeat' first
   | (with_reducible exact selvedgelaw06_works.mono _)
   | (with_reducible exact selvedgeref06_Escape.mono _ _ _)
   | (with_reducible exact LeO.refl _)
   | (with_reducible exact LeO.none _)
   | (with_reducible refine LeO.ite ?_ ?_)
   | (with_reducible refine LeO.bind ?_ (fun _ => ?_))
   | exact selvedgelaw06_works.mono _
   | exact selvedgeref06_Escape.mono _ _ _
   | exact LeO.none _
   | refine LeO.ite ?_ ?_
   | refine LeO.bind ?_ (fun _ => ?_)
set_option maxHeartbeats 80000000 in
set_option maxRecDepth 100000 in
theorem selvedgelaw06_SerialEscapes.calls (k : Nat) (a0 : ByteArray) (r : Bool) (w : World) (h : selvedgelaw06_SerialEscapes.f k a0 = some r) (hG1 : G1 w) :
  Calls Tryd.prog 3 #[.string a0] w fun e w' => e = .returned (.bool r) ∧ Below w.heap.size w w' := by
 have HB := Aside0.mk (Below.refl w.heap.size w)
 have H : (if (a0.size : Int) > 5000 then ((selvedgelaw06_works.f k).bind fun t101 => (some t101)) else ((x_Escape.f a0).bind fun t102 => ((selvedgeref06_Escape.f k a0 false).bind fun t103 => (if t102.toList = t103.toList then ((x_EscapeAttr.f a0).bind fun t104 => ((selvedgeref06_Escape.f k a0 true).bind fun t105 => (if t104.toList = t105.toList then ((selvedgelaw06_works.f k).bind fun t106 => (some t106)) else (some false)))) else (some false))))) = some r := h
 clear h
 by_cases c2 : (a0.size : Int) > 5000
 ·rw [if_pos c2] at H
  have c2b0 : decide (5000 < (a0.size : Int)) = true := decide_eq_true c2
  have c2b1 : decide (5000 < a0.size) = true := decide_eq_true (by omega)
  clear c2
  replace H := Option.bind_eq_some_iff.mp H
  obtain ⟨t101, A30, H⟩ := H
  replace H : (some t101) = some r := H
  have A3 := Aside0.mk A30
  clear A30
  obtain rfl := Option.some.inj H
  go_enter Tryd.func3, Tryd.ntmps3
  go_wp2_with (first | (go_at_call 12; (with_reducible refine (selvedgelaw06_works.calls k  t101 _ A3.out (by first | exact hG1 | exact G1.below hG1 (by assumption) | exact G1.below hG1 HB.out | (apply G1.below hG1; repeat (first | (with_reducible first | exact HB.out | apply below_alloc | apply pw_below_drewN | apply below_drew1 | exact Below.refl _ _) | exact HB.out | exact Below.refl _ _)) | (have hd_ := ‹Aside0 (Drawn0 _ _)›.out.below; exact G1.below hG1 hd_))).mono ?_); rintro e w4 ⟨rfl, hb⟩; have n0_ := Aside0.mk (below_step (by repeat (first | (with_reducible first | exact HB.out | apply below_alloc | apply pw_below_drewN | apply below_drew1) | exact HB.out)) hb); clear HB; have HB := n0_; clear n0_; (try clear hb); (try clear hb2); (try clear hk); (try clear hi)))
  go_ret
  exact ⟨by first | rfl | (simp [errW_none, errW_some] <;> rfl) | (simp [*, errW_none, errW_some] <;> rfl), by repeat (first | (with_reducible first | exact HB.out | apply below_alloc | apply pw_below_drewN | apply below_drew1) | exact HB.out)⟩
 ·rw [if_neg c2] at H
  have c2b0 : decide (5000 < (a0.size : Int)) = false := decide_eq_false c2
  have c2b1 : decide (5000 < a0.size) = false := decide_eq_false (by omega)
  clear c2
  replace H := Option.bind_eq_some_iff.mp H
  obtain ⟨t102, A50, H⟩ := H
  replace H : ((selvedgeref06_Escape.f k a0 false).bind fun t103 => (if t102.toList = t103.toList then ((x_EscapeAttr.f a0).bind fun t104 => ((selvedgeref06_Escape.f k a0 true).bind fun t105 => (if t104.toList = t105.toList then ((selvedgelaw06_works.f k).bind fun t106 => (some t106)) else (some false)))) else (some false))) = some r := H
  have A5 := Aside0.mk A50
  clear A50
  replace H := Option.bind_eq_some_iff.mp H
  obtain ⟨t103, A60, H⟩ := H
  replace H : (if t102.toList = t103.toList then ((x_EscapeAttr.f a0).bind fun t104 => ((selvedgeref06_Escape.f k a0 true).bind fun t105 => (if t104.toList = t105.toList then ((selvedgelaw06_works.f k).bind fun t106 => (some t106)) else (some false)))) else (some false)) = some r := H
  have A6 := Aside0.mk A60
  clear A60
  by_cases c7 : t102.toList = t103.toList
  ·rw [if_pos c7] at H
   have c7b0 : (t102.toList == t103.toList) = true := beq_iff_eq.mpr c7
   have c7b1 : (t102.toList != t103.toList) = false := bne_eq_false_iff_eq.mpr c7
   clear c7
   replace H := Option.bind_eq_some_iff.mp H
   obtain ⟨t104, A80, H⟩ := H
   replace H : ((selvedgeref06_Escape.f k a0 true).bind fun t105 => (if t104.toList = t105.toList then ((selvedgelaw06_works.f k).bind fun t106 => (some t106)) else (some false))) = some r := H
   have A8 := Aside0.mk A80
   clear A80
   replace H := Option.bind_eq_some_iff.mp H
   obtain ⟨t105, A90, H⟩ := H
   replace H : (if t104.toList = t105.toList then ((selvedgelaw06_works.f k).bind fun t106 => (some t106)) else (some false)) = some r := H
   have A9 := Aside0.mk A90
   clear A90
   by_cases c10 : t104.toList = t105.toList
   ·rw [if_pos c10] at H
    have c10b0 : (t104.toList == t105.toList) = true := beq_iff_eq.mpr c10
    have c10b1 : (t104.toList != t105.toList) = false := bne_eq_false_iff_eq.mpr c10
    clear c10
    replace H := Option.bind_eq_some_iff.mp H
    obtain ⟨t106, A110, H⟩ := H
    replace H : (some t106) = some r := H
    have A11 := Aside0.mk A110
    clear A110
    obtain rfl := Option.some.inj H
    go_enter Tryd.func3, Tryd.ntmps3
    go_wp2_with (first | (go_at_call 9; (with_reducible refine (x_Escape.calls a0 t102 _ A5.out).mono ?_); rintro e w12 ⟨rfl, hb⟩; have n0_ := Aside0.mk (below_step (by repeat (first | (with_reducible first | exact HB.out | apply below_alloc | apply pw_below_drewN | apply below_drew1) | exact HB.out)) hb); clear HB; have HB := n0_; clear n0_; (try clear hb); (try clear hb2); (try clear hk); (try clear hi)) | (go_at_call 10; (with_reducible refine (selvedgeref06_Escape.calls k a0 false t103 _ A6.out).mono ?_); rintro e w13 ⟨rfl, hb⟩; have n0_ := Aside0.mk (below_step (by repeat (first | (with_reducible first | exact HB.out | apply below_alloc | apply pw_below_drewN | apply below_drew1) | exact HB.out)) hb); clear HB; have HB := n0_; clear n0_; (try clear hb); (try clear hb2); (try clear hk); (try clear hi)) | (go_at_call 11; (with_reducible refine (x_EscapeAttr.calls a0 t104 _ A8.out).mono ?_); rintro e w14 ⟨rfl, hb⟩; have n0_ := Aside0.mk (below_step (by repeat (first | (with_reducible first | exact HB.out | apply below_alloc | apply pw_below_drewN | apply below_drew1) | exact HB.out)) hb); clear HB; have HB := n0_; clear n0_; (try clear hb); (try clear hb2); (try clear hk); (try clear hi)) | (go_at_call 10; (with_reducible refine (selvedgeref06_Escape.calls k a0 true t105 _ A9.out).mono ?_); rintro e w15 ⟨rfl, hb⟩; have n0_ := Aside0.mk (below_step (by repeat (first | (with_reducible first | exact HB.out | apply below_alloc | apply pw_below_drewN | apply below_drew1) | exact HB.out)) hb); clear HB; have HB := n0_; clear n0_; (try clear hb); (try clear hb2); (try clear hk); (try clear hi)) | (go_at_call 12; (with_reducible refine (selvedgelaw06_works.calls k  t106 _ A11.out (by first | exact hG1 | exact G1.below hG1 (by assumption) | exact G1.below hG1 HB.out | (apply G1.below hG1; repeat (first | (with_reducible first | exact HB.out | apply below_alloc | apply pw_below_drewN | apply below_drew1 | exact Below.refl _ _) | exact HB.out | exact Below.refl _ _)) | (have hd_ := ‹Aside0 (Drawn0 _ _)›.out.below; exact G1.below hG1 hd_))).mono ?_); rintro e w16 ⟨rfl, hb⟩; have n0_ := Aside0.mk (below_step (by repeat (first | (with_reducible first | exact HB.out | apply below_alloc | apply pw_below_drewN | apply below_drew1) | exact HB.out)) hb); clear HB; have HB := n0_; clear n0_; (try clear hb); (try clear hb2); (try clear hk); (try clear hi)))
    go_ret
    exact ⟨by first | rfl | (simp [errW_none, errW_some] <;> rfl) | (simp [*, errW_none, errW_some] <;> rfl), by repeat (first | (with_reducible first | exact HB.out | apply below_alloc | apply pw_below_drewN | apply below_drew1) | exact HB.out)⟩
   ·rw [if_neg c10] at H
    have c10b0 : (t104.toList == t105.toList) = false := beq_eq_false_iff_ne.mpr c10
    have c10b1 : (t104.toList != t105.toList) = true := bne_iff_ne.mpr c10
    obtain rfl := Option.some.inj H
    go_enter Tryd.func3, Tryd.ntmps3
    go_wp2_with (first | (go_at_call 9; (with_reducible refine (x_Escape.calls a0 t102 _ A5.out).mono ?_); rintro e w17 ⟨rfl, hb⟩; have n0_ := Aside0.mk (below_step (by repeat (first | (with_reducible first | exact HB.out | apply below_alloc | apply pw_below_drewN | apply below_drew1) | exact HB.out)) hb); clear HB; have HB := n0_; clear n0_; (try clear hb); (try clear hb2); (try clear hk); (try clear hi)) | (go_at_call 10; (with_reducible refine (selvedgeref06_Escape.calls k a0 false t103 _ A6.out).mono ?_); rintro e w18 ⟨rfl, hb⟩; have n0_ := Aside0.mk (below_step (by repeat (first | (with_reducible first | exact HB.out | apply below_alloc | apply pw_below_drewN | apply below_drew1) | exact HB.out)) hb); clear HB; have HB := n0_; clear n0_; (try clear hb); (try clear hb2); (try clear hk); (try clear hi)) | (go_at_call 11; (with_reducible refine (x_EscapeAttr.calls a0 t104 _ A8.out).mono ?_); rintro e w19 ⟨rfl, hb⟩; have n0_ := Aside0.mk (below_step (by repeat (first | (with_reducible first | exact HB.out | apply below_alloc | apply pw_below_drewN | apply below_drew1) | exact HB.out)) hb); clear HB; have HB := n0_; clear n0_; (try clear hb); (try clear hb2); (try clear hk); (try clear hi)) | (go_at_call 10; (with_reducible refine (selvedgeref06_Escape.calls k a0 true t105 _ A9.out).mono ?_); rintro e w20 ⟨rfl, hb⟩; have n0_ := Aside0.mk (below_step (by repeat (first | (with_reducible first | exact HB.out | apply below_alloc | apply pw_below_drewN | apply below_drew1) | exact HB.out)) hb); clear HB; have HB := n0_; clear n0_; (try clear hb); (try clear hb2); (try clear hk); (try clear hi)))
    go_ret
    exact ⟨by first | rfl | (simp [errW_none, errW_some] <;> rfl) | (simp [*, errW_none, errW_some] <;> rfl), by repeat (first | (with_reducible first | exact HB.out | apply below_alloc | apply pw_below_drewN | apply below_drew1) | exact HB.out)⟩
  ·rw [if_neg c7] at H
   have c7b0 : (t102.toList == t103.toList) = false := beq_eq_false_iff_ne.mpr c7
   have c7b1 : (t102.toList != t103.toList) = true := bne_iff_ne.mpr c7
   obtain rfl := Option.some.inj H
   go_enter Tryd.func3, Tryd.ntmps3
   go_wp2_with (first | (go_at_call 9; (with_reducible refine (x_Escape.calls a0 t102 _ A5.out).mono ?_); rintro e w21 ⟨rfl, hb⟩; have n0_ := Aside0.mk (below_step (by repeat (first | (with_reducible first | exact HB.out | apply below_alloc | apply pw_below_drewN | apply below_drew1) | exact HB.out)) hb); clear HB; have HB := n0_; clear n0_; (try clear hb); (try clear hb2); (try clear hk); (try clear hi)) | (go_at_call 10; (with_reducible refine (selvedgeref06_Escape.calls k a0 false t103 _ A6.out).mono ?_); rintro e w22 ⟨rfl, hb⟩; have n0_ := Aside0.mk (below_step (by repeat (first | (with_reducible first | exact HB.out | apply below_alloc | apply pw_below_drewN | apply below_drew1) | exact HB.out)) hb); clear HB; have HB := n0_; clear n0_; (try clear hb); (try clear hb2); (try clear hk); (try clear hi)))
   go_ret
   exact ⟨by first | rfl | (simp [errW_none, errW_some] <;> rfl) | (simp [*, errW_none, errW_some] <;> rfl), by repeat (first | (with_reducible first | exact HB.out | apply below_alloc | apply pw_below_drewN | apply below_drew1) | exact HB.out)⟩

end Go.Proofs.YtpfhgolamlnhiaaDoor.XD

namespace Go.Proofs.YtpfhgolamlnhiaaDoor.XD
open Go.RowKit Go.Proofs.YtpfhgolamlnhiaaDoor Go.Proofs.YtpfhgolamlnhiaaDoor.XT Go.Proofs.YtpfhgolamlnhiaaDoor.XA Go.Proofs.YtpfhgolamlnhiaaDoor.XB Go.Proofs.YtpfhgolamlnhiaaDoor.XC Go.Proofs.YtpfhgolamlnhiaaDoorW.PrintWords Go.Proofs.YtpfhgolamlnhiaaDoorW.PrintLast Go.Proofs.YtpfhgolamlnhiaaDoorW.PrintMore
attribute [local go_sem] max2_int min2_int max_two min_two max_three min_three max_four min_four   -- for this text's walks alone
set_option linter.unusedVariables false
set_option linter.unusedSimpArgs false

end Go.Proofs.YtpfhgolamlnhiaaDoor.XD
