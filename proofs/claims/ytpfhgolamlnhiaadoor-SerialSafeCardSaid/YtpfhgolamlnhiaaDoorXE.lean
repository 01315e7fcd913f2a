-- Written by wip/tools/px.py for this claim, by way of the kit's print of the translation. Lean checks it.
import Derived.Test.YtpfhgolamlnhiaaDoorXT
import Derived.Test.YtpfhgolamlnhiaaDoorXA
import Derived.Test.YtpfhgolamlnhiaaDoorXB1
import Derived.Test.YtpfhgolamlnhiaaDoorXC
import Derived.Test.YtpfhgolamlnhiaaDoorExt1
namespace Go.Proofs.YtpfhgolamlnhiaaDoor.XE
open Go.RowKit Go.Proofs.YtpfhgolamlnhiaaDoor Go.Proofs.YtpfhgolamlnhiaaDoor.XT Go.Proofs.YtpfhgolamlnhiaaDoor.XA Go.Proofs.YtpfhgolamlnhiaaDoor.XB Go.Proofs.YtpfhgolamlnhiaaDoor.XC Go.Proofs.YtpfhgolamlnhiaaDoorW.PrintWords Go.Proofs.YtpfhgolamlnhiaaDoorW.PrintLast Go.Proofs.YtpfhgolamlnhiaaDoorW.PrintMore
attribute [local go_sem] max2_int min2_int max_two min_two max_three min_three max_four min_four   -- for this text's walks alone
set_option linter.unusedVariables false
set_option linter.unusedSimpArgs false

end Go.Proofs.YtpfhgolamlnhiaaDoor.XE

namespace Go.Proofs.YtpfhgolamlnhiaaDoor.XE
open Go.RowKit Go.Proofs.YtpfhgolamlnhiaaDoor Go.Proofs.YtpfhgolamlnhiaaDoor.XT Go.Proofs.YtpfhgolamlnhiaaDoor.XA Go.Proofs.YtpfhgolamlnhiaaDoor.XB Go.Proofs.YtpfhgolamlnhiaaDoor.XC Go.Proofs.YtpfhgolamlnhiaaDoorW.PrintWords Go.Proofs.YtpfhgolamlnhiaaDoorW.PrintLast Go.Proofs.YtpfhgolamlnhiaaDoorW.PrintMore
attribute [local go_sem] max2_int min2_int max_two min_two max_three min_three max_four min_four   -- for this text's walks alone
set_option linter.unusedVariables false
set_option linter.unusedSimpArgs false

/-! ### selvedgelaw06_begins: function 13 -/
def selvedgelaw06_begins.l0 : Nat → ByteArray → List ByteArray → Int → Option (Bool)
 | 0, _, _, _ => none
 | k + 1, x0, x3, x4 => if x4 < (x3.length : Int) then (if 0 ≤ x4 then (if (x0.size : Int) ≥ ((rdOf ByteArray.empty x3 x4).size : Int) then (if 0 ≤ ((rdOf ByteArray.empty x3 x4).size : Int) then (if ((rdOf ByteArray.empty x3 x4).size : Int) ≤ (x0.size : Int) then (if (x0.extract 0 (((rdOf ByteArray.empty x3 x4).size : Int) : Int).toNat).toList = (rdOf ByteArray.empty x3 x4).toList then (some true) else (selvedgelaw06_begins.l0 k x0 x3 (wrap64 (x4 + 1)))) else (none)) else (none)) else (selvedgelaw06_begins.l0 k x0 x3 (wrap64 (x4 + 1)))) else (none)) else (some false)
def selvedgelaw06_begins.f (k : Nat) (a0 : ByteArray) : Option (Bool) := selvedgelaw06_begins.l0 k a0 (([(⟨#[38, 97, 109, 112, 59]⟩ : ByteArray), (⟨#[38, 108, 116, 59]⟩ : ByteArray), (⟨#[38, 103, 116, 59]⟩ : ByteArray), (⟨#[38, 110, 98, 115, 112, 59]⟩ : ByteArray), (⟨#[38, 35, 49, 51, 59]⟩ : ByteArray), (⟨#[38, 113, 117, 111, 116, 59]⟩ : ByteArray)] : List ByteArray)) 0
theorem selvedgelaw06_begins.mono_l : ∀ k, (∀ y0 y1 y2, LeO (selvedgelaw06_begins.l0 k y0 y1 y2) (selvedgelaw06_begins.l0 (k + 1) y0 y1 y2))
 | 0 => fun _ _ _ r h => by simp [selvedgelaw06_begins.l0] at h
 | k + 1 => by
  have ih0 := selvedgelaw06_begins.mono_l k
  ·intro y0 y1 y2
   unfold selvedgelaw06_begins.l0
   repeat' first
   | (with_reducible exact ih0 _ _ _)
   | (with_reducible exact LeO.refl _)
   | (with_reducible exact LeO.none _)
   | (with_reducible refine LeO.ite ?_ ?_)
   | (with_reducible refine LeO.bind ?_ (fun _ => ?_))
   | exact ih0 _ _ _
   | exact LeO.none _
   | refine LeO.ite ?_ ?_
   | refine LeO.bind ?_ (fun _ => ?_)
theorem selvedgelaw06_begins.mono : ∀ a0 k, LeO (selvedgelaw06_begins.f k a0) (selvedgelaw06_begins.f (k + 1) a0) := by
 intro a0 k
 have ih0 := selvedgelaw06_begins.mono_l k
 unfold selvedgelaw06_begins.f
 repeat' first
   | (with_reducible exact ih0 _ _ _)
   | (with_reducible exact LeO.refl _)
   | (with_reducible exact LeO.none _)
   | (with_reducible refine LeO.ite ?_ ?_)
   | (with_reducible refine LeO.bind ?_ (fun _ => ?_))
   | exact ih0 _ _ _
   | exact LeO.none _
   | refine LeO.ite ?_ ?_
   | refine LeO.bind ?_ (fun _ => ?_)
set_option maxHeartbeats 80000000 in
set_option maxRecDepth 100000 in
theorem selvedgelaw06_begins.calls (k : Nat) (a0 : ByteArray) (r : Bool) (w : World) (h : selvedgelaw06_begins.f k a0 = some r) :
  Calls Tryd.prog 13 #[.string a0] w fun e w' => e = .returned (.bool r) ∧ Below w.heap.size w w' := by
 have HB := Aside0.mk (Below.refl w.heap.size w)
 have H : (selvedgelaw06_begins.l0 k a0 (([(⟨#[38, 97, 109, 112, 59]⟩ : ByteArray), (⟨#[38, 108, 116, 59]⟩ : ByteArray), (⟨#[38, 103, 116, 59]⟩ : ByteArray), (⟨#[38, 110, 98, 115, 112, 59]⟩ : ByteArray), (⟨#[38, 35, 49, 51, 59]⟩ : ByteArray), (⟨#[38, 113, 117, 111, 116, 59]⟩ : ByteArray)] : List ByteArray)) 0) = some r := h
 clear h
 obtain ⟨y101, hy101⟩ : ∃ y_ : List ByteArray, y_ = (([(⟨#[38, 97, 109, 112, 59]⟩ : ByteArray), (⟨#[38, 108, 116, 59]⟩ : ByteArray), (⟨#[38, 103, 116, 59]⟩ : ByteArray), (⟨#[38, 110, 98, 115, 112, 59]⟩ : ByteArray), (⟨#[38, 35, 49, 51, 59]⟩ : ByteArray), (⟨#[38, 113, 117, 111, 116, 59]⟩ : ByteArray)] : List ByteArray)) := ⟨_, rfl⟩
 replace H : (selvedgelaw06_begins.l0 k a0 y101 0) = some r := by first | (rw [hy101]; with_reducible exact H) | (have H2_ := (Option.bind_some _ _).symm.trans H; rw [hy101]; with_reducible exact H2_) | (have H2_ := (Option.bind_some _ _).symm.trans H; with_reducible exact H2_) | with_reducible exact H | (rw [hy101]; exact H) | exact H
 have Ny101 := Aside0.mk hy101
 clear hy101
 have H' := Aside0.mk H
 clear H
 go_enter Tryd.func13, Tryd.ntmps13
 go_wp2_with (first | ((with_reducible refine gate_dst (N := 5) rfl ?_); (try (refine gate_guard (by rfl) ?_; dsimp only)); refine Kd.R_lit Kd.string _ 9 ?hg (N := 5) ?hd (xs := ([(⟨#[38, 97, 109, 112, 59]⟩ : ByteArray), (⟨#[38, 108, 116, 59]⟩ : ByteArray), (⟨#[38, 103, 116, 59]⟩ : ByteArray), (⟨#[38, 110, 98, 115, 112, 59]⟩ : ByteArray), (⟨#[38, 35, 49, 51, 59]⟩ : ByteArray), (⟨#[38, 113, 117, 111, 116, 59]⟩ : ByteArray)] : List ByteArray)) (inner := [.string (⟨#[38, 97, 109, 112, 59]⟩ : ByteArray), .string (⟨#[38, 108, 116, 59]⟩ : ByteArray), .string (⟨#[38, 103, 116, 59]⟩ : ByteArray), .string (⟨#[38, 110, 98, 115, 112, 59]⟩ : ByteArray), .string (⟨#[38, 35, 49, 51, 59]⟩ : ByteArray), .string (⟨#[38, 113, 117, 111, 116, 59]⟩ : ByteArray)]) (ok := fun _ => True) (okp := fun _ => True) ?hr ?hp (fun _ hk => hk) trivial (Below.refl _ _) (Nat.le_refl _) (by simp) ?_; (case hd => rfl); (case hg => rfl); (case hr => first | (go_simp; done) | (go_simp; rfl)); (case hp => exact (Reps.one (show Kd.M Kd.string _ _ _ (⟨#[38, 97, 109, 112, 59]⟩ : ByteArray) [.string (⟨#[38, 97, 109, 112, 59]⟩ : ByteArray)] from rfl) (Reps.one (show Kd.M Kd.string _ _ _ (⟨#[38, 108, 116, 59]⟩ : ByteArray) [.string (⟨#[38, 108, 116, 59]⟩ : ByteArray)] from rfl) (Reps.one (show Kd.M Kd.string _ _ _ (⟨#[38, 103, 116, 59]⟩ : ByteArray) [.string (⟨#[38, 103, 116, 59]⟩ : ByteArray)] from rfl) (Reps.one (show Kd.M Kd.string _ _ _ (⟨#[38, 110, 98, 115, 112, 59]⟩ : ByteArray) [.string (⟨#[38, 110, 98, 115, 112, 59]⟩ : ByteArray)] from rfl) (Reps.one (show Kd.M Kd.string _ _ _ (⟨#[38, 35, 49, 51, 59]⟩ : ByteArray) [.string (⟨#[38, 35, 49, 51, 59]⟩ : ByteArray)] from rfl) (Reps.one (show Kd.M Kd.string _ _ _ (⟨#[38, 113, 117, 111, 116, 59]⟩ : ByteArray) [.string (⟨#[38, 113, 117, 111, 116, 59]⟩ : ByteArray)] from rfl) (Reps.none _ _)))))))); intro v102 w2 ho3 hb hg_ hnew_; clear hg_ hnew_; (first | rw [← Ny101.out] at ho3 | (simp only [Int.reduceToNat] at ho3; rw [← Ny101.out] at ho3)); have n0_ := Aside0.mk (Kd.R_lower ho3 (below_size (by repeat (first | (with_reducible first | exact HB.out | apply below_alloc | apply pw_below_drewN | apply below_drew1) | exact HB.out)))); have n1_ := Aside0.mk (below_step (by repeat (first | (with_reducible first | exact HB.out | apply below_alloc | apply pw_below_drewN | apply below_drew1) | exact HB.out)) hb); clear HB; have HO103 := n0_; have HB := n1_; clear n0_ n1_; clear hb ho3))
 repeat (go_quiet (first | ((with_reducible refine gate_dst (N := 5) rfl ?_); (try (refine gate_guard (by rfl) ?_; dsimp only)); refine Kd.R_lit Kd.string _ 9 ?hg (N := 5) ?hd (xs := ([(⟨#[38, 97, 109, 112, 59]⟩ : ByteArray), (⟨#[38, 108, 116, 59]⟩ : ByteArray), (⟨#[38, 103, 116, 59]⟩ : ByteArray), (⟨#[38, 110, 98, 115, 112, 59]⟩ : ByteArray), (⟨#[38, 35, 49, 51, 59]⟩ : ByteArray), (⟨#[38, 113, 117, 111, 116, 59]⟩ : ByteArray)] : List ByteArray)) (inner := [.string (⟨#[38, 97, 109, 112, 59]⟩ : ByteArray), .string (⟨#[38, 108, 116, 59]⟩ : ByteArray), .string (⟨#[38, 103, 116, 59]⟩ : ByteArray), .string (⟨#[38, 110, 98, 115, 112, 59]⟩ : ByteArray), .string (⟨#[38, 35, 49, 51, 59]⟩ : ByteArray), .string (⟨#[38, 113, 117, 111, 116, 59]⟩ : ByteArray)]) (ok := fun _ => True) (okp := fun _ => True) ?hr ?hp (fun _ hk => hk) trivial (Below.refl _ _) (Nat.le_refl _) (by simp) ?_; (case hd => rfl); (case hg => rfl); (case hr => first | (go_simp; done) | (go_simp; rfl)); (case hp => exact (Reps.one (show Kd.M Kd.string _ _ _ (⟨#[38, 97, 109, 112, 59]⟩ : ByteArray) [.string (⟨#[38, 97, 109, 112, 59]⟩ : ByteArray)] from rfl) (Reps.one (show Kd.M Kd.string _ _ _ (⟨#[38, 108, 116, 59]⟩ : ByteArray) [.string (⟨#[38, 108, 116, 59]⟩ : ByteArray)] from rfl) (Reps.one (show Kd.M Kd.string _ _ _ (⟨#[38, 103, 116, 59]⟩ : ByteArray) [.string (⟨#[38, 103, 116, 59]⟩ : ByteArray)] from rfl) (Reps.one (show Kd.M Kd.string _ _ _ (⟨#[38, 110, 98, 115, 112, 59]⟩ : ByteArray) [.string (⟨#[38, 110, 98, 115, 112, 59]⟩ : ByteArray)] from rfl) (Reps.one (show Kd.M Kd.string _ _ _ (⟨#[38, 35, 49, 51, 59]⟩ : ByteArray) [.string (⟨#[38, 35, 49, 51, 59]⟩ : ByteArray)] from rfl) (Reps.one (show Kd.M Kd.string _ _ _ (⟨#[38, 113, 117, 111, 116, 59]⟩ : ByteArray) [.string (⟨#[38, 113, 117, 111, 116, 59]⟩ : ByteArray)] from rfl) (Reps.none _ _)))))))); intro v102 w2 ho3 hb hg_ hnew_; clear hg_ hnew_; (first | rw [← Ny101.out] at ho3 | (simp only [Int.reduceToNat] at ho3; rw [← Ny101.out] at ho3)); have n0_ := Aside0.mk (Kd.R_lower ho3 (below_size (by repeat (first | (with_reducible first | exact HB.out | apply below_alloc | apply pw_below_drewN | apply below_drew1) | exact HB.out)))); have n1_ := Aside0.mk (below_step (by repeat (first | (with_reducible first | exact HB.out | apply below_alloc | apply pw_below_drewN | apply below_drew1) | exact HB.out)) hb); clear HB; have HO103 := n0_; have HB := n1_; clear n0_ n1_; clear hb ho3)); try go_wp2_with (first | ((with_reducible refine gate_dst (N := 5) rfl ?_); (try (refine gate_guard (by rfl) ?_; dsimp only)); refine Kd.R_lit Kd.string _ 9 ?hg (N := 5) ?hd (xs := ([(⟨#[38, 97, 109, 112, 59]⟩ : ByteArray), (⟨#[38, 108, 116, 59]⟩ : ByteArray), (⟨#[38, 103, 116, 59]⟩ : ByteArray), (⟨#[38, 110, 98, 115, 112, 59]⟩ : ByteArray), (⟨#[38, 35, 49, 51, 59]⟩ : ByteArray), (⟨#[38, 113, 117, 111, 116, 59]⟩ : ByteArray)] : List ByteArray)) (inner := [.string (⟨#[38, 97, 109, 112, 59]⟩ : ByteArray), .string (⟨#[38, 108, 116, 59]⟩ : ByteArray), .string (⟨#[38, 103, 116, 59]⟩ : ByteArray), .string (⟨#[38, 110, 98, 115, 112, 59]⟩ : ByteArray), .string (⟨#[38, 35, 49, 51, 59]⟩ : ByteArray), .string (⟨#[38, 113, 117, 111, 116, 59]⟩ : ByteArray)]) (ok := fun _ => True) (okp := fun _ => True) ?hr ?hp (fun _ hk => hk) trivial (Below.refl _ _) (Nat.le_refl _) (by simp) ?_; (case hd => rfl); (case hg => rfl); (case hr => first | (go_simp; done) | (go_simp; rfl)); (case hp => exact (Reps.one (show Kd.M Kd.string _ _ _ (⟨#[38, 97, 109, 112, 59]⟩ : ByteArray) [.string (⟨#[38, 97, 109, 112, 59]⟩ : ByteArray)] from rfl) (Reps.one (show Kd.M Kd.string _ _ _ (⟨#[38, 108, 116, 59]⟩ : ByteArray) [.string (⟨#[38, 108, 116, 59]⟩ : ByteArray)] from rfl) (Reps.one (show Kd.M Kd.string _ _ _ (⟨#[38, 103, 116, 59]⟩ : ByteArray) [.string (⟨#[38, 103, 116, 59]⟩ : ByteArray)] from rfl) (Reps.one (show Kd.M Kd.string _ _ _ (⟨#[38, 110, 98, 115, 112, 59]⟩ : ByteArray) [.string (⟨#[38, 110, 98, 115, 112, 59]⟩ : ByteArray)] from rfl) (Reps.one (show Kd.M Kd.string _ _ _ (⟨#[38, 35, 49, 51, 59]⟩ : ByteArray) [.string (⟨#[38, 35, 49, 51, 59]⟩ : ByteArray)] from rfl) (Reps.one (show Kd.M Kd.string _ _ _ (⟨#[38, 113, 117, 111, 116, 59]⟩ : ByteArray) [.string (⟨#[38, 113, 117, 111, 116, 59]⟩ : ByteArray)] from rfl) (Reps.none _ _)))))))); intro v102 w2 ho3 hb hg_ hnew_; clear hg_ hnew_; (first | rw [← Ny101.out] at ho3 | (simp only [Int.reduceToNat] at ho3; rw [← Ny101.out] at ho3)); have n0_ := Aside0.mk (Kd.R_lower ho3 (below_size (by repeat (first | (with_reducible first | exact HB.out | apply below_alloc | apply pw_below_drewN | apply below_drew1) | exact HB.out)))); have n1_ := Aside0.mk (below_step (by repeat (first | (with_reducible first | exact HB.out | apply below_alloc | apply pw_below_drewN | apply below_drew1) | exact HB.out)) hb); clear HB; have HO103 := n0_; have HB := n1_; clear n0_ n1_; clear hb ho3)))
 go_loopg [4] k (fun kq v4 w' => ∃ (x4_1 : Int), v4 = .int .i64 x4_1 ∧ Aside0 (selvedgelaw06_begins.l0 kq a0 y101 x4_1 = some r) ∧ Aside0 (kq ≤ k) ∧ Aside0 (Kd.R Kd.string 9 w' w.heap.size (fun _ => True) v102 y101) ∧ Aside0 (Below w.heap.size w w'))
 case atStart => exact ⟨(0), (by first | rfl | (simp; done) | (simp [*]; done) | (simp [bne, List.isEmpty_iff]; done) | (simp [bne, List.isEmpty_iff, *]; done) | (simp [bne]; rfl)), H', ⟨Nat.le_refl _⟩, ⟨by (with_reducible repeat (first | apply Kd.R_alloc | apply Kd.R_drewN | apply Kd.R_drew)); exact HO103.out⟩, ⟨by repeat (first | (with_reducible first | exact HB.out | apply below_alloc | apply pw_below_drewN | apply below_drew1) | exact HB.out)⟩⟩
 case round =>
  clear H'
  try clear c1
  try clear p2
  obtain ⟨x4_1, rfl, HA, HK1, HO_3, HB⟩ := hrel
  cases gk with
  | zero => exact absurd HA.out (by simp [selvedgelaw06_begins.l0])
  | succ k1 =>
   have H := HA.out
   clear HA
   simp only [selvedgelaw06_begins.l0] at H
   by_cases c4 : x4_1 < (y101.length : Int)
   ·rw [if_pos c4] at H
    have c4b0 : decide (x4_1 < (y101.length : Int)) = true := decide_eq_true c4
    clear c4
    by_cases c5 : 0 ≤ x4_1
    ·rw [if_pos c5] at H
     have c5b0 : decide (0 ≤ x4_1) = true := decide_eq_true c5
     clear c5
     by_cases c6 : (a0.size : Int) ≥ ((rdOf ByteArray.empty y101 x4_1).size : Int)
     ·rw [if_pos c6] at H
      have c6b0 : decide (((rdOf ByteArray.empty y101 x4_1).size : Int) ≤ (a0.size : Int)) = true := decide_eq_true c6
      have c6b1 : decide ((rdOf ByteArray.empty y101 x4_1).size ≤ a0.size) = true := decide_eq_true (Int.ofNat_le.mp c6)
      clear c6
      by_cases c7 : 0 ≤ ((rdOf ByteArray.empty y101 x4_1).size : Int)
      ·rw [if_pos c7] at H
       have c7b0 := eq_true c7
       have c7b1 : decide (0 ≤ ((rdOf ByteArray.empty y101 x4_1).size : Int)) = true := decide_eq_true c7
       clear c7
       by_cases c8 : ((rdOf ByteArray.empty y101 x4_1).size : Int) ≤ (a0.size : Int)
       ·rw [if_pos c8] at H
        have c8b0 := eq_true c8
        have c8b1 : decide (((rdOf ByteArray.empty y101 x4_1).size : Int) ≤ (a0.size : Int)) = true := decide_eq_true c8
        clear c8
        by_cases c9 : (a0.extract 0 (((rdOf ByteArray.empty y101 x4_1).size : Int) : Int).toNat).toList = (rdOf ByteArray.empty y101 x4_1).toList
        ·rw [if_pos c9] at H
         have c9b0 : ((a0.extract 0 (((rdOf ByteArray.empty y101 x4_1).size : Int) : Int).toNat).toList == (rdOf ByteArray.empty y101 x4_1).toList) = true := beq_iff_eq.mpr c9
         (try simp only [Int.toNat_natCast] at c9b0)
         have c9b1 : ((a0.extract 0 (((rdOf ByteArray.empty y101 x4_1).size : Int) : Int).toNat).toList != (rdOf ByteArray.empty y101 x4_1).toList) = false := bne_eq_false_iff_eq.mpr c9
         (try simp only [Int.toNat_natCast] at c9b1)
         clear c9
         obtain rfl := Option.some.inj H
         obtain ⟨Ao10, co10, eo10⟩ := Kd.R_slice HO_3.out
         subst eo10
         have p104 : 0 ≤ (x4_1 : Int) := of_decide_eq_true (by first | (with_reducible assumption) | assumption)
         have q104 : x4_1 < (y101.length : Int) := of_decide_eq_true (by first | (with_reducible assumption) | assumption)
         obtain ⟨ad104, e104, hx104_0⟩ := Kd.at_string (Kd.R_reads' HO_3.out).2.2 x4_1 p104 q104
         cases e104
         replace p104 := eq_true p104
         replace q104 := eq_true q104
         have p105 : 0 ≤ (x4_1 : Int) := of_decide_eq_true (by first | (with_reducible assumption) | assumption)
         have q105 : x4_1 < (y101.length : Int) := of_decide_eq_true (by first | (with_reducible assumption) | assumption)
         obtain ⟨ad105, e105, hx105_0⟩ := Kd.at_string (Kd.R_reads' HO_3.out).2.2 x4_1 p105 q105
         obtain rfl : ad104 = ad105 := (by injection e105)
         replace p105 := eq_true p105
         replace q105 := eq_true q105
         have p106 : 0 ≤ (x4_1 : Int) := of_decide_eq_true (by first | (with_reducible assumption) | assumption)
         have q106 : x4_1 < (y101.length : Int) := of_decide_eq_true (by first | (with_reducible assumption) | assumption)
         obtain ⟨ad106, e106, hx106_0⟩ := Kd.at_string (Kd.R_reads' HO_3.out).2.2 x4_1 p106 q106
         obtain rfl : ad104 = ad106 := (by injection e106)
         replace p106 := eq_true p106
         replace q106 := eq_true q106
         go_wp2
         repeat (go_quiet (fail); try go_wp2)
         go_ret
         exact ⟨by first | rfl | (simp [errW_none, errW_some] <;> rfl) | (simp [*, errW_none, errW_some] <;> rfl), by repeat (first | (with_reducible first | exact HB.out | apply below_alloc | apply pw_below_drewN | apply below_drew1) | exact HB.out)⟩
        ·rw [if_neg c9] at H
         have c9b0 : ((a0.extract 0 (((rdOf ByteArray.empty y101 x4_1).size : Int) : Int).toNat).toList == (rdOf ByteArray.empty y101 x4_1).toList) = false := beq_eq_false_iff_ne.mpr c9
         (try simp only [Int.toNat_natCast] at c9b0)
         have c9b1 : ((a0.extract 0 (((rdOf ByteArray.empty y101 x4_1).size : Int) : Int).toNat).toList != (rdOf ByteArray.empty y101 x4_1).toList) = true := bne_iff_ne.mpr c9
         (try simp only [Int.toNat_natCast] at c9b1)
         have H' := Aside0.mk H
         clear H
         obtain ⟨Ao11, co11, eo11⟩ := Kd.R_slice HO_3.out
         subst eo11
         have p104 : 0 ≤ (x4_1 : Int) := of_decide_eq_true (by first | (with_reducible assumption) | assumption)
         have q104 : x4_1 < (y101.length : Int) := of_decide_eq_true (by first | (with_reducible assumption) | assumption)
         obtain ⟨ad104, e104, hx104_0⟩ := Kd.at_string (Kd.R_reads' HO_3.out).2.2 x4_1 p104 q104
         cases e104
         replace p104 := eq_true p104
         replace q104 := eq_true q104
         have p105 : 0 ≤ (x4_1 : Int) := of_decide_eq_true (by first | (with_reducible assumption) | assumption)
         have q105 : x4_1 < (y101.length : Int) := of_decide_eq_true (by first | (with_reducible assumption) | assumption)
         obtain ⟨ad105, e105, hx105_0⟩ := Kd.at_string (Kd.R_reads' HO_3.out).2.2 x4_1 p105 q105
         obtain rfl : ad104 = ad105 := (by injection e105)
         replace p105 := eq_true p105
         replace q105 := eq_true q105
         have p106 : 0 ≤ (x4_1 : Int) := of_decide_eq_true (by first | (with_reducible assumption) | assumption)
         have q106 : x4_1 < (y101.length : Int) := of_decide_eq_true (by first | (with_reducible assumption) | assumption)
         obtain ⟨ad106, e106, hx106_0⟩ := Kd.at_string (Kd.R_reads' HO_3.out).2.2 x4_1 p106 q106
         obtain rfl : ad104 = ad106 := (by injection e106)
         replace p106 := eq_true p106
         replace q106 := eq_true q106
         go_wp2
         repeat (go_quiet (fail); try go_wp2)
         go_roundg k1
         case measure => have := HK1.out; omega
         case rel => exact ⟨(wrap64 (x4_1 + 1)), (by first | rfl | (simp; done) | (simp [*]; done) | (simp [bne, List.isEmpty_iff]; done) | (simp [bne, List.isEmpty_iff, *]; done) | (simp [bne]; rfl)), H', ⟨by have := HK1.out; omega⟩, ⟨by (with_reducible repeat (first | apply Kd.R_alloc | apply Kd.R_drewN | apply Kd.R_drew)); exact HO_3.out⟩, ⟨by repeat (first | (with_reducible first | exact HB.out | apply below_alloc | apply pw_below_drewN | apply below_drew1) | exact HB.out)⟩⟩
       ·rw [if_neg c8] at H
        exact absurd H (by simp)
      ·rw [if_neg c7] at H
       exact absurd H (by simp)
     ·rw [if_neg c6] at H
      have c6b0 : decide (((rdOf ByteArray.empty y101 x4_1).size : Int) ≤ (a0.size : Int)) = false := decide_eq_false c6
      have c6b1 : decide ((rdOf ByteArray.empty y101 x4_1).size ≤ a0.size) = false := decide_eq_false (fun h => c6 (Int.ofNat_le.mpr h))
      clear c6
      have H' := Aside0.mk H
      clear H
      obtain ⟨Ao12, co12, eo12⟩ := Kd.R_slice HO_3.out
      subst eo12
      have p104 : 0 ≤ (x4_1 : Int) := of_decide_eq_true (by first | (with_reducible assumption) | assumption)
      have q104 : x4_1 < (y101.length : Int) := of_decide_eq_true (by first | (with_reducible assumption) | assumption)
      obtain ⟨ad104, e104, hx104_0⟩ := Kd.at_string (Kd.R_reads' HO_3.out).2.2 x4_1 p104 q104
      cases e104
      replace p104 := eq_true p104
      replace q104 := eq_true q104
      go_wp2
      repeat (go_quiet (fail); try go_wp2)
      go_roundg k1
      case measure => have := HK1.out; omega
      case rel => exact ⟨(wrap64 (x4_1 + 1)), (by first | rfl | (simp; done) | (simp [*]; done) | (simp [bne, List.isEmpty_iff]; done) | (simp [bne, List.isEmpty_iff, *]; done) | (simp [bne]; rfl)), H', ⟨by have := HK1.out; omega⟩, ⟨by (with_reducible repeat (first | apply Kd.R_alloc | apply Kd.R_drewN | apply Kd.R_drew)); exact HO_3.out⟩, ⟨by repeat (first | (with_reducible first | exact HB.out | apply below_alloc | apply pw_below_drewN | apply below_drew1) | exact HB.out)⟩⟩
    ·rw [if_neg c5] at H
     exact absurd H (by simp)
   ·rw [if_neg c4] at H
    have c4b0 : decide (x4_1 < (y101.length : Int)) = false := decide_eq_false c4
    clear c4
    obtain rfl := Option.some.inj H
    obtain ⟨Ao13, co13, eo13⟩ := Kd.R_slice HO_3.out
    subst eo13
    go_wp2
    repeat (go_quiet (fail); try go_wp2)
    go_ret
    exact ⟨by first | rfl | (simp [errW_none, errW_some] <;> rfl) | (simp [*, errW_none, errW_some] <;> rfl), by repeat (first | (with_reducible first | exact HB.out | apply below_alloc | apply pw_below_drewN | apply below_drew1) | exact HB.out)⟩

/-! ### selvedgelaw06_SerialSafe: function 4 -/
mutual
def selvedgelaw06_SerialSafe.l0 : Nat → ByteArray → ByteArray → Int → Option (Bool)
 | 0, _, _, _ => none
 | k + 1, x3, x4, x5 => if x5 < (x3.size : Int) then (if 0 ≤ x5 then (if (bt x3 x5) = 60 then (some false) else (if (bt x3 x5) = 62 then (some false) else (if (bt x3 x5) = 13 then (some false) else (if (bt x3 x5) = 38 then (if x5 ≤ (x3.size : Int) then ((selvedgelaw06_begins.f k (x3.extract (x5 : Int).toNat x3.size)).bind fun t110 => (if t110 = true then (selvedgelaw06_SerialSafe.l0 k x3 x4 (wrap64 (x5 + 1))) else (some false))) else (none)) else (selvedgelaw06_SerialSafe.l0 k x3 x4 (wrap64 (x5 + 1))))))) else (none)) else (selvedgelaw06_SerialSafe.l1 k x4 0)
def selvedgelaw06_SerialSafe.l1 : Nat → ByteArray → Int → Option (Bool)
 | 0, _, _ => none
 | k + 1, x4, x6 => if x6 < (x4.size : Int) then (if 0 ≤ x6 then (if (bt x4 x6) = 34 then (some false) else (if (bt x4 x6) = 13 then (some false) else (if (bt x4 x6) = 38 then (if x6 ≤ (x4.size : Int) then ((selvedgelaw06_begins.f k (x4.extract (x6 : Int).toNat x4.size)).bind fun t111 => (if t111 = true then (selvedgelaw06_SerialSafe.l1 k x4 (wrap64 (x6 + 1))) else (some false))) else (none)) else (selvedgelaw06_SerialSafe.l1 k x4 (wrap64 (x6 + 1)))))) else (none)) else ((selvedgelaw06_works.f k).bind fun t112 => (some t112))
end
def selvedgelaw06_SerialSafe.f (k : Nat) (a0 : ByteArray) : Option (Bool) := if (a0.size : Int) > 3000 then ((selvedgelaw06_works.f k).bind fun t107 => (some t107)) else ((x_Escape.f a0).bind fun t108 => ((x_EscapeAttr.f a0).bind fun t109 => (selvedgelaw06_SerialSafe.l0 k t108 t109 0)))
theorem selvedgelaw06_SerialSafe.mono_l : ∀ k, (∀ y0 y1 y2, LeO (selvedgelaw06_SerialSafe.l0 k y0 y1 y2) (selvedgelaw06_SerialSafe.l0 (k + 1) y0 y1 y2)) ∧ (∀ y0 y1, LeO (selvedgelaw06_SerialSafe.l1 k y0 y1) (selvedgelaw06_SerialSafe.l1 (k + 1) y0 y1))
 | 0 => ⟨fun _ _ _ r h => by simp [selvedgelaw06_SerialSafe.l0] at h, fun _ _ r h => by simp [selvedgelaw06_SerialSafe.l1] at h⟩
 | k + 1 => by
  obtain ⟨ih0, ih1⟩ := selvedgelaw06_SerialSafe.mono_l k
  refine ⟨?_, ?_⟩
  ·intro y0 y1 y2
   unfold selvedgelaw06_SerialSafe.l0
   repeat' first
   | (with_reducible exact ih0 _ _ _)
   | (with_reducible exact ih1 _ _)
   | (with_reducible exact selvedgelaw06_begins.mono _ _)
   | (with_reducible exact selvedgelaw06_works.mono _)
   | (with_reducible exact LeO.refl _)
   | (with_reducible exact LeO.none _)
   | (with_reducible refine LeO.ite ?_ ?_)
   | (with_reducible refine LeO.bind ?_ (fun _ => ?_))
   | exact ih0 _ _ _
   | exact ih1 _ _
   | exact selvedgelaw06_begins.mono _ _
   | exact selvedgelaw06_works.mono _
   | exact LeO.none _
   | refine LeO.ite ?_ ?_
   | refine LeO.bind ?_ (fun _ => ?_)
  ·intro y0 y1
   unfold selvedgelaw06_SerialSafe.l1
   repeat' first
   | (with_reducible exact ih0 _ _ _)
   | (with_reducible exact ih1 _ _)
   | (with_reducible exact selvedgelaw06_begins.mono _ _)
   | (with_reducible exact selvedgelaw06_works.mono _)
   | (with_reducible exact LeO.refl _)
   | (with_reducible exact LeO.none _)
   | (with_reducible refine LeO.ite ?_ ?_)
   | (with_reducible refine LeO.bind ?_ (fun _ => ?_))
   | exact ih0 _ _ _
   | exact ih1 _ _
   | exact selvedgelaw06_begins.mono _ _
   | exact selvedgelaw06_works.mono _
   | exact LeO.none _
   | refine LeO.ite ?_ ?_
   | refine LeO.bind ?_ (fun _ => ?_)
theorem selvedgelaw06_SerialSafe.mono : ∀ a0 k, LeO (selvedgelaw06_SerialSafe.f k a0) (selvedgelaw06_SerialSafe.f (k + 1) a0) := by
 intro a0 k
 obtain ⟨ih0, ih1⟩ := selvedgelaw06_SerialSafe.mono_l k
 unfold selvedgelaw06_SerialSafe.f
 repeat' first
   | (with_reducible exact ih0 _ _ _)
   | (with_reducible exact ih1 _ _)
   | (with_reducible exact selvedgelaw06_begins.mono _ _)
   | (with_reducible exact selvedgelaw06_works.mono _)
   | (with_reducible exact LeO.refl _)
   | (with_reducible exact LeO.none _)
   | (with_reducible refine LeO.ite ?_ ?_)
   | (with_reducible refine LeO.bind ?_ (fun _ => ?_))
   | exact ih0 _ _ _
   | exact ih1 _ _
   | exact selvedgelaw06_begins.mono _ _
   | exact selvedgelaw06_works.mono _
   | exact LeO.none _
   | refine LeO.ite ?_ ?_
   | refine LeO.bind ?_ (fun _ => ?_)
set_option maxHeartbeats 80000000 in
set_option maxRecDepth 100000 in
theorem selvedgelaw06_SerialSafe.calls (k : Nat) (a0 : ByteArray) (r : Bool) (w : World) (h : selvedgelaw06_SerialSafe.f k a0 = some r) (hG1 : G1 w) :
  Calls Tryd.prog 4 #[.string a0] w fun e w' => e = .returned (.bool r) ∧ Below w.heap.size w w' := by
 have HB := Aside0.mk (Below.refl w.heap.size w)
 have H : (if (a0.size : Int) > 3000 then ((selvedgelaw06_works.f k).bind fun t107 => (some t107)) else ((x_Escape.f a0).bind fun t108 => ((x_EscapeAttr.f a0).bind fun t109 => (selvedgelaw06_SerialSafe.l0 k t108 t109 0)))) = some r := h
 clear h
 by_cases c2 : (a0.size : Int) > 3000
 ·rw [if_pos c2] at H
  have c2b0 : decide (3000 < (a0.size : Int)) = true := decide_eq_true c2
  have c2b1 : decide (3000 < a0.size) = true := decide_eq_true (by omega)
  clear c2
  replace H := Option.bind_eq_some_iff.mp H
  obtain ⟨t107, A30, H⟩ := H
  replace H : (some t107) = some r := H
  have A3 := Aside0.mk A30
  clear A30
  obtain rfl := Option.some.inj H
  go_enter Tryd.func4, Tryd.ntmps4
  go_wp2_with (first | ((with_reducible refine gate_callee (f := 12) rfl ?_); refine goesL_ (some 10) rfl rfl Tryd.func12 (by kernel_rfl) rfl #[] rfl (by (try simp only [List.map_toArray, List.map_cons, List.map_nil]); first | done | rfl | (simp only [List.length_drop, List.length_take]; rfl)) ?_; (with_reducible refine (selvedgelaw06_works.calls k  t107 _ A3.out (by first | exact hG1 | exact G1.below hG1 (by assumption) | exact G1.below hG1 HB.out | (apply G1.below hG1; repeat (first | (with_reducible first | exact HB.out | apply below_alloc | apply pw_below_drewN | apply below_drew1 | exact Below.refl _ _) | exact HB.out | exact Below.refl _ _)) | (have hd_ := ‹Aside0 (Drawn0 _ _)›.out.below; exact G1.below hG1 hd_))).mono ?_); rintro e w4 ⟨rfl, hb⟩; refine ⟨_, rfl, ?_⟩; have n0_ := Aside0.mk (below_step (by repeat (first | (with_reducible first | exact HB.out | apply below_alloc | apply pw_below_drewN | apply below_drew1) | exact HB.out)) hb); clear HB; have HB := n0_; clear n0_; (try clear hb); (try clear hb2); (try clear hk); (try clear hi)))
  go_ret
  exact ⟨by first | rfl | (simp [errW_none, errW_some] <;> rfl) | (simp [*, errW_none, errW_some] <;> rfl), by repeat (first | (with_reducible first | exact HB.out | apply below_alloc | apply pw_below_drewN | apply below_drew1) | exact HB.out)⟩
 ·rw [if_neg c2] at H
  have c2b0 : decide (3000 < (a0.size : Int)) = false := decide_eq_false c2
  have c2b1 : decide (3000 < a0.size) = false := decide_eq_false (by omega)
  clear c2
  replace H := Option.bind_eq_some_iff.mp H
  obtain ⟨t108, A50, H⟩ := H
  replace H : ((x_EscapeAttr.f a0).bind fun t109 => (selvedgelaw06_SerialSafe.l0 k t108 t109 0)) = some r := H
  have A5 := Aside0.mk A50
  clear A50
  replace H := Option.bind_eq_some_iff.mp H
  obtain ⟨t109, A60, H⟩ := H
  replace H : (selvedgelaw06_SerialSafe.l0 k t108 t109 0) = some r := H
  have A6 := Aside0.mk A60
  clear A60
  have H' := Aside0.mk H
  clear H
  go_enter Tryd.func4, Tryd.ntmps4
  go_wp2_with (first | ((with_reducible refine gate_callee (f := 9) rfl ?_); refine goesL_ (some 12) rfl rfl Tryd.func9 (by kernel_rfl) rfl #[.string a0] rfl (by (try simp only [List.map_toArray, List.map_cons, List.map_nil]); first | done | rfl | (simp only [List.length_drop, List.length_take]; rfl)) ?_; (with_reducible refine (x_Escape.calls a0 t108 _ A5.out).mono ?_); rintro e w7 ⟨rfl, hb⟩; refine ⟨_, rfl, ?_⟩; have n0_ := Aside0.mk (below_step (by repeat (first | (with_reducible first | exact HB.out | apply below_alloc | apply pw_below_drewN | apply below_drew1) | exact HB.out)) hb); clear HB; have HB := n0_; clear n0_; (try clear hb); (try clear hb2); (try clear hk); (try clear hi)) | ((with_reducible refine gate_callee (f := 11) rfl ?_); refine goesL_ (some 14) rfl rfl Tryd.func11 (by kernel_rfl) rfl #[.string a0] rfl (by (try simp only [List.map_toArray, List.map_cons, List.map_nil]); first | done | rfl | (simp only [List.length_drop, List.length_take]; rfl)) ?_; (with_reducible refine (x_EscapeAttr.calls a0 t109 _ A6.out).mono ?_); rintro e w8 ⟨rfl, hb⟩; refine ⟨_, rfl, ?_⟩; have n0_ := Aside0.mk (below_step (by repeat (first | (with_reducible first | exact HB.out | apply below_alloc | apply pw_below_drewN | apply below_drew1) | exact HB.out)) hb); clear HB; have HB := n0_; clear n0_; (try clear hb); (try clear hb2); (try clear hk); (try clear hi)))
  go_loopg [5] k (fun kq v5 w' => ∃ (x5_1 : Int), v5 = .int .i64 x5_1 ∧ Aside0 (selvedgelaw06_SerialSafe.l0 kq t108 t109 x5_1 = some r) ∧ Aside0 (kq ≤ k) ∧ Aside0 (Below w.heap.size w w'))
  case atStart => exact ⟨(0), (by first | rfl | (simp; done) | (simp [*]; done) | (simp [bne, List.isEmpty_iff]; done) | (simp [bne, List.isEmpty_iff, *]; done) | (simp [bne]; rfl)), H', ⟨Nat.le_refl _⟩, ⟨by repeat (first | (with_reducible first | exact HB.out | apply below_alloc | apply pw_below_drewN | apply below_drew1) | exact HB.out)⟩⟩
  case round =>
   clear H'
   try clear c1
   try clear c2
   try clear c2b0
   try clear c2b1
   try clear p2
   try clear c4
   obtain ⟨x5_1, rfl, HA, HK1, HB⟩ := hrel
   cases gk with
   | zero => exact absurd HA.out (by simp [selvedgelaw06_SerialSafe.l0])
   | succ k1 =>
    have H := HA.out
    clear HA
    simp only [selvedgelaw06_SerialSafe.l0] at H
    by_cases c9 : x5_1 < (t108.size : Int)
    ·rw [if_pos c9] at H
     have c9b0 : decide (x5_1 < (t108.size : Int)) = true := decide_eq_true c9
     clear c9
     by_cases c10 : 0 ≤ x5_1
     ·rw [if_pos c10] at H
      have c10b0 : decide (0 ≤ x5_1) = true := decide_eq_true c10
      clear c10
      by_cases c12 : (bt t108 x5_1) = 60
      ·rw [if_pos c12] at H
       have c12b0 : ((bt t108 x5_1) == 60) = true := beq_iff_eq.mpr c12
       have c12b1 : ((bt t108 x5_1) != 60) = false := bne_eq_false_iff_eq.mpr c12
       clear c12
       obtain rfl := Option.some.inj H
       have p11 : 0 ≤ (x5_1 : Int) := of_decide_eq_true (by first | (with_reducible assumption) | assumption)
       have q11 : x5_1 < (t108.size : Int) := of_decide_eq_true (by first | (with_reducible assumption) | assumption)
       have hx11 := bt_at t108 x5_1
       replace p11 := eq_true p11
       replace q11 := eq_true q11
       go_wp2
       go_ret
       exact ⟨by first | rfl | (simp [errW_none, errW_some] <;> rfl) | (simp [*, errW_none, errW_some] <;> rfl), by repeat (first | (with_reducible first | exact HB.out | apply below_alloc | apply pw_below_drewN | apply below_drew1) | exact HB.out)⟩
      ·rw [if_neg c12] at H
       have c12b0 : ((bt t108 x5_1) == 60) = false := beq_eq_false_iff_ne.mpr c12
       have c12b1 : ((bt t108 x5_1) != 60) = true := bne_iff_ne.mpr c12
       by_cases c14 : (bt t108 x5_1) = 62
       ·rw [if_pos c14] at H
        have c14b0 : ((bt t108 x5_1) == 62) = true := beq_iff_eq.mpr c14
        have c14b1 : ((bt t108 x5_1) != 62) = false := bne_eq_false_iff_eq.mpr c14
        clear c14
        obtain rfl := Option.some.inj H
        have p11 : 0 ≤ (x5_1 : Int) := of_decide_eq_true (by first | (with_reducible assumption) | assumption)
        have q11 : x5_1 < (t108.size : Int) := of_decide_eq_true (by first | (with_reducible assumption) | assumption)
        have hx11 := bt_at t108 x5_1
        replace p11 := eq_true p11
        replace q11 := eq_true q11
        have p13 : 0 ≤ (x5_1 : Int) := of_decide_eq_true (by first | (with_reducible assumption) | assumption)
        have q13 : x5_1 < (t108.size : Int) := of_decide_eq_true (by first | (with_reducible assumption) | assumption)
        have hx13 := bt_at t108 x5_1
        replace p13 := eq_true p13
        replace q13 := eq_true q13
        go_wp2
        go_ret
        exact ⟨by first | rfl | (simp [errW_none, errW_some] <;> rfl) | (simp [*, errW_none, errW_some] <;> rfl), by repeat (first | (with_reducible first | exact HB.out | apply below_alloc | apply pw_below_drewN | apply below_drew1) | exact HB.out)⟩
       ·rw [if_neg c14] at H
        have c14b0 : ((bt t108 x5_1) == 62) = false := beq_eq_false_iff_ne.mpr c14
        have c14b1 : ((bt t108 x5_1) != 62) = true := bne_iff_ne.mpr c14
        by_cases c16 : (bt t108 x5_1) = 13
        ·rw [if_pos c16] at H
         have c16b0 : ((bt t108 x5_1) == 13) = true := beq_iff_eq.mpr c16
         have c16b1 : ((bt t108 x5_1) != 13) = false := bne_eq_false_iff_eq.mpr c16
         clear c16
         obtain rfl := Option.some.inj H
         have p11 : 0 ≤ (x5_1 : Int) := of_decide_eq_true (by first | (with_reducible assumption) | assumption)
         have q11 : x5_1 < (t108.size : Int) := of_decide_eq_true (by first | (with_reducible assumption) | assumption)
         have hx11 := bt_at t108 x5_1
         replace p11 := eq_true p11
         replace q11 := eq_true q11
         have p13 : 0 ≤ (x5_1 : Int) := of_decide_eq_true (by first | (with_reducible assumption) | assumption)
         have q13 : x5_1 < (t108.size : Int) := of_decide_eq_true (by first | (with_reducible assumption) | assumption)
         have hx13 := bt_at t108 x5_1
         replace p13 := eq_true p13
         replace q13 := eq_true q13
         have p15 : 0 ≤ (x5_1 : Int) := of_decide_eq_true (by first | (with_reducible assumption) | assumption)
         have q15 : x5_1 < (t108.size : Int) := of_decide_eq_true (by first | (with_reducible assumption) | assumption)
         have hx15 := bt_at t108 x5_1
         replace p15 := eq_true p15
         replace q15 := eq_true q15
         go_wp2
         go_ret
         exact ⟨by first | rfl | (simp [errW_none, errW_some] <;> rfl) | (simp [*, errW_none, errW_some] <;> rfl), by repeat (first | (with_reducible first | exact HB.out | apply below_alloc | apply pw_below_drewN | apply below_drew1) | exact HB.out)⟩
        ·rw [if_neg c16] at H
         have c16b0 : ((bt t108 x5_1) == 13) = false := beq_eq_false_iff_ne.mpr c16
         have c16b1 : ((bt t108 x5_1) != 13) = true := bne_iff_ne.mpr c16
         by_cases c18 : (bt t108 x5_1) = 38
         ·rw [if_pos c18] at H
          have c18b0 : ((bt t108 x5_1) == 38) = true := beq_iff_eq.mpr c18
          have c18b1 : ((bt t108 x5_1) != 38) = false := bne_eq_false_iff_eq.mpr c18
          clear c18
          have c19b0 := eq_true (of_decide_eq_true (by first | (with_reducible assumption) | assumption) : 0 ≤ x5_1)
          by_cases c20 : x5_1 ≤ (t108.size : Int)
          ·rw [if_pos c20] at H
           have c20b0 := eq_true c20
           have c20b1 : decide (x5_1 ≤ (t108.size : Int)) = true := decide_eq_true c20
           clear c20
           replace H := Option.bind_eq_some_iff.mp H
           obtain ⟨t110, A210, H⟩ := H
           replace H : (if t110 = true then (selvedgelaw06_SerialSafe.l0 k1 t108 t109 (wrap64 (x5_1 + 1))) else (some false)) = some r := H
           have A21 := Aside0.mk A210
           clear A210
           by_cases c22 : t110 = true
           ·subst c22
            have H1 : (selvedgelaw06_SerialSafe.l0 k1 t108 t109 (wrap64 (x5_1 + 1))) = some r := by rw [if_pos rfl] at H; exact H
            clear H
            have H := H1
            clear H1
            have H' := Aside0.mk H
            clear H
            have p11 : 0 ≤ (x5_1 : Int) := of_decide_eq_true (by first | (with_reducible assumption) | assumption)
            have q11 : x5_1 < (t108.size : Int) := of_decide_eq_true (by first | (with_reducible assumption) | assumption)
            have hx11 := bt_at t108 x5_1
            replace p11 := eq_true p11
            replace q11 := eq_true q11
            have p13 : 0 ≤ (x5_1 : Int) := of_decide_eq_true (by first | (with_reducible assumption) | assumption)
            have q13 : x5_1 < (t108.size : Int) := of_decide_eq_true (by first | (with_reducible assumption) | assumption)
            have hx13 := bt_at t108 x5_1
            replace p13 := eq_true p13
            replace q13 := eq_true q13
            have p15 : 0 ≤ (x5_1 : Int) := of_decide_eq_true (by first | (with_reducible assumption) | assumption)
            have q15 : x5_1 < (t108.size : Int) := of_decide_eq_true (by first | (with_reducible assumption) | assumption)
            have hx15 := bt_at t108 x5_1
            replace p15 := eq_true p15
            replace q15 := eq_true q15
            have p17 : 0 ≤ (x5_1 : Int) := of_decide_eq_true (by first | (with_reducible assumption) | assumption)
            have q17 : x5_1 < (t108.size : Int) := of_decide_eq_true (by first | (with_reducible assumption) | assumption)
            have hx17 := bt_at t108 x5_1
            replace p17 := eq_true p17
            replace q17 := eq_true q17
            go_wp2_with (first | (go_at_call 13; (with_reducible refine (selvedgelaw06_begins.calls k1 (t108.extract (x5_1 : Int).toNat t108.size) true _ A21.out).mono ?_); rintro e w23 ⟨rfl, hb⟩; have n0_ := Aside0.mk (below_step (by repeat (first | (with_reducible first | exact HB.out | apply below_alloc | apply pw_below_drewN | apply below_drew1) | exact HB.out)) hb); clear HB; have HB := n0_; clear n0_; (try clear hb); (try clear hb2); (try clear hk); (try clear hi)))
            go_roundg k1
            case measure => have := HK1.out; omega
            case rel => exact ⟨(wrap64 (x5_1 + 1)), (by first | rfl | (simp; done) | (simp [*]; done) | (simp [bne, List.isEmpty_iff]; done) | (simp [bne, List.isEmpty_iff, *]; done) | (simp [bne]; rfl)), H', ⟨by have := HK1.out; omega⟩, ⟨by repeat (first | (with_reducible first | exact HB.out | apply below_alloc | apply pw_below_drewN | apply below_drew1) | exact HB.out)⟩⟩
           ·replace c22 := Bool.eq_false_iff.mpr c22
            subst c22
            have H1 : (some false) = some r := by rw [if_neg (show ¬ (false = true) by decide)] at H; exact H
            clear H
            have H := H1
            clear H1
            obtain rfl := Option.some.inj H
            have p11 : 0 ≤ (x5_1 : Int) := of_decide_eq_true (by first | (with_reducible assumption) | assumption)
            have q11 : x5_1 < (t108.size : Int) := of_decide_eq_true (by first | (with_reducible assumption) | assumption)
            have hx11 := bt_at t108 x5_1
            replace p11 := eq_true p11
            replace q11 := eq_true q11
            have p13 : 0 ≤ (x5_1 : Int) := of_decide_eq_true (by first | (with_reducible assumption) | assumption)
            have q13 : x5_1 < (t108.size : Int) := of_decide_eq_true (by first | (with_reducible assumption) | assumption)
            have hx13 := bt_at t108 x5_1
            replace p13 := eq_true p13
            replace q13 := eq_true q13
            have p15 : 0 ≤ (x5_1 : Int) := of_decide_eq_true (by first | (with_reducible assumption) | assumption)
            have q15 : x5_1 < (t108.size : Int) := of_decide_eq_true (by first | (with_reducible assumption) | assumption)
            have hx15 := bt_at t108 x5_1
            replace p15 := eq_true p15
            replace q15 := eq_true q15
            have p17 : 0 ≤ (x5_1 : Int) := of_decide_eq_true (by first | (with_reducible assumption) | assumption)
            have q17 : x5_1 < (t108.size : Int) := of_decide_eq_true (by first | (with_reducible assumption) | assumption)
            have hx17 := bt_at t108 x5_1
            replace p17 := eq_true p17
            replace q17 := eq_true q17
            go_wp2_with (first | (go_at_call 13; (with_reducible refine (selvedgelaw06_begins.calls k1 (t108.extract (x5_1 : Int).toNat t108.size) false _ A21.out).mono ?_); rintro e w24 ⟨rfl, hb⟩; have n0_ := Aside0.mk (below_step (by repeat (first | (with_reducible first | exact HB.out | apply below_alloc | apply pw_below_drewN | apply below_drew1) | exact HB.out)) hb); clear HB; have HB := n0_; clear n0_; (try clear hb); (try clear hb2); (try clear hk); (try clear hi)))
            go_ret
            exact ⟨by first | rfl | (simp [errW_none, errW_some] <;> rfl) | (simp [*, errW_none, errW_some] <;> rfl), by repeat (first | (with_reducible first | exact HB.out | apply below_alloc | apply pw_below_drewN | apply below_drew1) | exact HB.out)⟩
          ·rw [if_neg c20] at H
           exact absurd H (by simp)
         ·rw [if_neg c18] at H
          have c18b0 : ((bt t108 x5_1) == 38) = false := beq_eq_false_iff_ne.mpr c18
          have c18b1 : ((bt t108 x5_1) != 38) = true := bne_iff_ne.mpr c18
          have H' := Aside0.mk H
          clear H
          have p11 : 0 ≤ (x5_1 : Int) := of_decide_eq_true (by first | (with_reducible assumption) | assumption)
          have q11 : x5_1 < (t108.size : Int) := of_decide_eq_true (by first | (with_reducible assumption) | assumption)
          have hx11 := bt_at t108 x5_1
          replace p11 := eq_true p11
          replace q11 := eq_true q11
          have p13 : 0 ≤ (x5_1 : Int) := of_decide_eq_true (by first | (with_reducible assumption) | assumption)
          have q13 : x5_1 < (t108.size : Int) := of_decide_eq_true (by first | (with_reducible assumption) | assumption)
          have hx13 := bt_at t108 x5_1
          replace p13 := eq_true p13
          replace q13 := eq_true q13
          have p15 : 0 ≤ (x5_1 : Int) := of_decide_eq_true (by first | (with_reducible assumption) | assumption)
          have q15 : x5_1 < (t108.size : Int) := of_decide_eq_true (by first | (with_reducible assumption) | assumption)
          have hx15 := bt_at t108 x5_1
          replace p15 := eq_true p15
          replace q15 := eq_true q15
          have p17 : 0 ≤ (x5_1 : Int) := of_decide_eq_true (by first | (with_reducible assumption) | assumption)
          have q17 : x5_1 < (t108.size : Int) := of_decide_eq_true (by first | (with_reducible assumption) | assumption)
          have hx17 := bt_at t108 x5_1
          replace p17 := eq_true p17
          replace q17 := eq_true q17
          go_wp2
          go_roundg k1
          case measure => have := HK1.out; omega
          case rel => exact ⟨(wrap64 (x5_1 + 1)), (by first | rfl | (simp; done) | (simp [*]; done) | (simp [bne, List.isEmpty_iff]; done) | (simp [bne, List.isEmpty_iff, *]; done) | (simp [bne]; rfl)), H', ⟨by have := HK1.out; omega⟩, ⟨by repeat (first | (with_reducible first | exact HB.out | apply below_alloc | apply pw_below_drewN | apply below_drew1) | exact HB.out)⟩⟩
     ·rw [if_neg c10] at H
      exact absurd H (by simp)
    ·rw [if_neg c9] at H
     have c9b0 : decide (x5_1 < (t108.size : Int)) = false := decide_eq_false c9
     clear c9
     have H' := Aside0.mk H
     clear H
     go_wp2
     go_loopg [6] k1 (fun kq v6 w' => ∃ (x6_2 : Int), v6 = .int .i64 x6_2 ∧ Aside0 (selvedgelaw06_SerialSafe.l1 kq t109 x6_2 = some r) ∧ Aside0 (kq ≤ k1) ∧ Aside0 (Below w.heap.size w w'))
     case atStart => exact ⟨(0), (by first | rfl | (simp; done) | (simp [*]; done) | (simp [bne, List.isEmpty_iff]; done) | (simp [bne, List.isEmpty_iff, *]; done) | (simp [bne]; rfl)), H', ⟨Nat.le_refl _⟩, ⟨by repeat (first | (with_reducible first | exact HB.out | apply below_alloc | apply pw_below_drewN | apply below_drew1) | exact HB.out)⟩⟩
     case round =>
      clear H'
      try clear c1
      try clear p1
      try clear q1
      try clear hx1
      try clear c2
      try clear c2b0
      try clear c2b1
      try clear p2
      try clear c4
      try clear p6
      try clear c9
      try clear c9b0
      try clear c10
      try clear c10b0
      try clear c11
      try clear p11
      try clear q11
      try clear hx11
      try clear c12
      try clear c12b0
      try clear c12b1
      try clear p13
      try clear q13
      try clear hx13
      try clear c14
      try clear c14b0
      try clear c14b1
      try clear p15
      try clear q15
      try clear hx15
      try clear c16
      try clear c16b0
      try clear c16b1
      try clear p17
      try clear q17
      try clear hx17
      try clear c18
      try clear c18b0
      try clear c18b1
      try clear c19
      try clear c19b0
      try clear c20
      try clear c20b0
      try clear c20b1
      try clear c22
      try clear p11
      try clear p13
      try clear p15
      try clear p17
      try clear p2
      try clear q11
      try clear q13
      try clear q15
      try clear q17
      obtain ⟨x6_2, rfl, HA, HK2, HB⟩ := hrel
      cases gk with
      | zero => exact absurd HA.out (by simp [selvedgelaw06_SerialSafe.l1])
      | succ k2 =>
       have H := HA.out
       clear HA
       simp only [selvedgelaw06_SerialSafe.l1] at H
       by_cases c25 : x6_2 < (t109.size : Int)
       ·rw [if_pos c25] at H
        have c25b0 : decide (x6_2 < (t109.size : Int)) = true := decide_eq_true c25
        clear c25
        by_cases c26 : 0 ≤ x6_2
        ·rw [if_pos c26] at H
         have c26b0 : decide (0 ≤ x6_2) = true := decide_eq_true c26
         clear c26
         by_cases c28 : (bt t109 x6_2) = 34
         ·rw [if_pos c28] at H
          have c28b0 : ((bt t109 x6_2) == 34) = true := beq_iff_eq.mpr c28
          have c28b1 : ((bt t109 x6_2) != 34) = false := bne_eq_false_iff_eq.mpr c28
          clear c28
          obtain rfl := Option.some.inj H
          have p27 : 0 ≤ (x6_2 : Int) := of_decide_eq_true (by first | (with_reducible assumption) | assumption)
          have q27 : x6_2 < (t109.size : Int) := of_decide_eq_true (by first | (with_reducible assumption) | assumption)
          have hx27 := bt_at t109 x6_2
          replace p27 := eq_true p27
          replace q27 := eq_true q27
          go_wp2
          go_ret
          exact ⟨by first | rfl | (simp [errW_none, errW_some] <;> rfl) | (simp [*, errW_none, errW_some] <;> rfl), by repeat (first | (with_reducible first | exact HB.out | apply below_alloc | apply pw_below_drewN | apply below_drew1) | exact HB.out)⟩
         ·rw [if_neg c28] at H
          have c28b0 : ((bt t109 x6_2) == 34) = false := beq_eq_false_iff_ne.mpr c28
          have c28b1 : ((bt t109 x6_2) != 34) = true := bne_iff_ne.mpr c28
          by_cases c30 : (bt t109 x6_2) = 13
          ·rw [if_pos c30] at H
           have c30b0 : ((bt t109 x6_2) == 13) = true := beq_iff_eq.mpr c30
           have c30b1 : ((bt t109 x6_2) != 13) = false := bne_eq_false_iff_eq.mpr c30
           clear c30
           obtain rfl := Option.some.inj H
           have p27 : 0 ≤ (x6_2 : Int) := of_decide_eq_true (by first | (with_reducible assumption) | assumption)
           have q27 : x6_2 < (t109.size : Int) := of_decide_eq_true (by first | (with_reducible assumption) | assumption)
           have hx27 := bt_at t109 x6_2
           replace p27 := eq_true p27
           replace q27 := eq_true q27
           have p29 : 0 ≤ (x6_2 : Int) := of_decide_eq_true (by first | (with_reducible assumption) | assumption)
           have q29 : x6_2 < (t109.size : Int) := of_decide_eq_true (by first | (with_reducible assumption) | assumption)
           have hx29 := bt_at t109 x6_2
           replace p29 := eq_true p29
           replace q29 := eq_true q29
           go_wp2
           go_ret
           exact ⟨by first | rfl | (simp [errW_none, errW_some] <;> rfl) | (simp [*, errW_none, errW_some] <;> rfl), by repeat (first | (with_reducible first | exact HB.out | apply below_alloc | apply pw_below_drewN | apply below_drew1) | exact HB.out)⟩
          ·rw [if_neg c30] at H
           have c30b0 : ((bt t109 x6_2) == 13) = false := beq_eq_false_iff_ne.mpr c30
           have c30b1 : ((bt t109 x6_2) != 13) = true := bne_iff_ne.mpr c30
           by_cases c32 : (bt t109 x6_2) = 38
           ·rw [if_pos c32] at H
            have c32b0 : ((bt t109 x6_2) == 38) = true := beq_iff_eq.mpr c32
            have c32b1 : ((bt t109 x6_2) != 38) = false := bne_eq_false_iff_eq.mpr c32
            clear c32
            have c33b0 := eq_true (of_decide_eq_true (by first | (with_reducible assumption) | assumption) : 0 ≤ x6_2)
            by_cases c34 : x6_2 ≤ (t109.size : Int)
            ·rw [if_pos c34] at H
             have c34b0 := eq_true c34
             have c34b1 : decide (x6_2 ≤ (t109.size : Int)) = true := decide_eq_true c34
             clear c34
             replace H := Option.bind_eq_some_iff.mp H
             obtain ⟨t111, A350, H⟩ := H
             replace H : (if t111 = true then (selvedgelaw06_SerialSafe.l1 k2 t109 (wrap64 (x6_2 + 1))) else (some false)) = some r := H
             have A35 := Aside0.mk A350
             clear A350
             by_cases c36 : t111 = true
             ·subst c36
              have H1 : (selvedgelaw06_SerialSafe.l1 k2 t109 (wrap64 (x6_2 + 1))) = some r := by rw [if_pos rfl] at H; exact H
              clear H
              have H := H1
              clear H1
              have H' := Aside0.mk H
              clear H
              have p27 : 0 ≤ (x6_2 : Int) := of_decide_eq_true (by first | (with_reducible assumption) | assumption)
              have q27 : x6_2 < (t109.size : Int) := of_decide_eq_true (by first | (with_reducible assumption) | assumption)
              have hx27 := bt_at t109 x6_2
              replace p27 := eq_true p27
              replace q27 := eq_true q27
              have p29 : 0 ≤ (x6_2 : Int) := of_decide_eq_true (by first | (with_reducible assumption) | assumption)
              have q29 : x6_2 < (t109.size : Int) := of_decide_eq_true (by first | (with_reducible assumption) | assumption)
              have hx29 := bt_at t109 x6_2
              replace p29 := eq_true p29
              replace q29 := eq_true q29
              have p31 : 0 ≤ (x6_2 : Int) := of_decide_eq_true (by first | (with_reducible assumption) | assumption)
              have q31 : x6_2 < (t109.size : Int) := of_decide_eq_true (by first | (with_reducible assumption) | assumption)
              have hx31 := bt_at t109 x6_2
              replace p31 := eq_true p31
              replace q31 := eq_true q31
              go_wp2_with (first | (go_at_call 13; (with_reducible refine (selvedgelaw06_begins.calls k2 (t109.extract (x6_2 : Int).toNat t109.size) true _ A35.out).mono ?_); rintro e w37 ⟨rfl, hb⟩; have n0_ := Aside0.mk (below_step (by repeat (first | (with_reducible first | exact HB.out | apply below_alloc | apply pw_below_drewN | apply below_drew1) | exact HB.out)) hb); clear HB; have HB := n0_; clear n0_; (try clear hb); (try clear hb2); (try clear hk); (try clear hi)))
              go_roundg k2
              case measure => have := HK1.out; have := HK2.out; omega
              case rel => exact ⟨(wrap64 (x6_2 + 1)), (by first | rfl | (simp; done) | (simp [*]; done) | (simp [bne, List.isEmpty_iff]; done) | (simp [bne, List.isEmpty_iff, *]; done) | (simp [bne]; rfl)), H', ⟨by have := HK1.out; have := HK2.out; omega⟩, ⟨by repeat (first | (with_reducible first | exact HB.out | apply below_alloc | apply pw_below_drewN | apply below_drew1) | exact HB.out)⟩⟩
             ·replace c36 := Bool.eq_false_iff.mpr c36
              subst c36
              have H1 : (some false) = some r := by rw [if_neg (show ¬ (false = true) by decide)] at H; exact H
              clear H
              have H := H1
              clear H1
              obtain rfl := Option.some.inj H
              have p27 : 0 ≤ (x6_2 : Int) := of_decide_eq_true (by first | (with_reducible assumption) | assumption)
              have q27 : x6_2 < (t109.size : Int) := of_decide_eq_true (by first | (with_reducible assumption) | assumption)
              have hx27 := bt_at t109 x6_2
              replace p27 := eq_true p27
              replace q27 := eq_true q27
              have p29 : 0 ≤ (x6_2 : Int) := of_decide_eq_true (by first | (with_reducible assumption) | assumption)
              have q29 : x6_2 < (t109.size : Int) := of_decide_eq_true (by first | (with_reducible assumption) | assumption)
              have hx29 := bt_at t109 x6_2
              replace p29 := eq_true p29
              replace q29 := eq_true q29
              have p31 : 0 ≤ (x6_2 : Int) := of_decide_eq_true (by first | (with_reducible assumption) | assumption)
              have q31 : x6_2 < (t109.size : Int) := of_decide_eq_true (by first | (with_reducible assumption) | assumption)
              have hx31 := bt_at t109 x6_2
              replace p31 := eq_true p31
              replace q31 := eq_true q31
              go_wp2_with (first | (go_at_call 13; (with_reducible refine (selvedgelaw06_begins.calls k2 (t109.extract (x6_2 : Int).toNat t109.size) false _ A35.out).mono ?_); rintro e w38 ⟨rfl, hb⟩; have n0_ := Aside0.mk (below_step (by repeat (first | (with_reducible first | exact HB.out | apply below_alloc | apply pw_below_drewN | apply below_drew1) | exact HB.out)) hb); clear HB; have HB := n0_; clear n0_; (try clear hb); (try clear hb2); (try clear hk); (try clear hi)))
              go_ret
              exact ⟨by first | rfl | (simp [errW_none, errW_some] <;> rfl) | (simp [*, errW_none, errW_some] <;> rfl), by repeat (first | (with_reducible first | exact HB.out | apply below_alloc | apply pw_below_drewN | apply below_drew1) | exact HB.out)⟩
            ·rw [if_neg c34] at H
             exact absurd H (by simp)
           ·rw [if_neg c32] at H
            have c32b0 : ((bt t109 x6_2) == 38) = false := beq_eq_false_iff_ne.mpr c32
            have c32b1 : ((bt t109 x6_2) != 38) = true := bne_iff_ne.mpr c32
            have H' := Aside0.mk H
            clear H
            have p27 : 0 ≤ (x6_2 : Int) := of_decide_eq_true (by first | (with_reducible assumption) | assumption)
            have q27 : x6_2 < (t109.size : Int) := of_decide_eq_true (by first | (with_reducible assumption) | assumption)
            have hx27 := bt_at t109 x6_2
            replace p27 := eq_true p27
            replace q27 := eq_true q27
            have p29 : 0 ≤ (x6_2 : Int) := of_decide_eq_true (by first | (with_reducible assumption) | assumption)
            have q29 : x6_2 < (t109.size : Int) := of_decide_eq_true (by first | (with_reducible assumption) | assumption)
            have hx29 := bt_at t109 x6_2
            replace p29 := eq_true p29
            replace q29 := eq_true q29
            have p31 : 0 ≤ (x6_2 : Int) := of_decide_eq_true (by first | (with_reducible assumption) | assumption)
            have q31 : x6_2 < (t109.size : Int) := of_decide_eq_true (by first | (with_reducible assumption) | assumption)
            have hx31 := bt_at t109 x6_2
            replace p31 := eq_true p31
            replace q31 := eq_true q31
            go_wp2
            go_roundg k2
            case measure => have := HK1.out; have := HK2.out; omega
            case rel => exact ⟨(wrap64 (x6_2 + 1)), (by first | rfl | (simp; done) | (simp [*]; done) | (simp [bne, List.isEmpty_iff]; done) | (simp [bne, List.isEmpty_iff, *]; done) | (simp [bne]; rfl)), H', ⟨by have := HK1.out; have := HK2.out; omega⟩, ⟨by repeat (first | (with_reducible first | exact HB.out | apply below_alloc | apply pw_below_drewN | apply below_drew1) | exact HB.out)⟩⟩
        ·rw [if_neg c26] at H
         exact absurd H (by simp)
       ·rw [if_neg c25] at H
        have c25b0 : decide (x6_2 < (t109.size : Int)) = false := decide_eq_false c25
        clear c25
        replace H := Option.bind_eq_some_iff.mp H
        obtain ⟨t112, A390, H⟩ := H
        replace H : (some t112) = some r := H
        have A39 := Aside0.mk A390
        clear A390
        obtain rfl := Option.some.inj H
        go_wp2_with (first | ((with_reducible refine gate_callee (f := 12) rfl ?_); refine goesL_ (some 79) rfl rfl Tryd.func12 (by kernel_rfl) rfl #[] rfl (by (try simp only [List.map_toArray, List.map_cons, List.map_nil]); first | done | rfl | (simp only [List.length_drop, List.length_take]; rfl)) ?_; (with_reducible refine (selvedgelaw06_works.calls k2  t112 _ A39.out (by first | exact hG1 | exact G1.below hG1 (by assumption) | exact G1.below hG1 HB.out | (apply G1.below hG1; repeat (first | (with_reducible first | exact HB.out | apply below_alloc | apply pw_below_drewN | apply below_drew1 | exact Below.refl _ _) | exact HB.out | exact Below.refl _ _)) | (have hd_ := ‹Aside0 (Drawn0 _ _)›.out.below; exact G1.below hG1 hd_))).mono ?_); rintro e w40 ⟨rfl, hb⟩; refine ⟨_, rfl, ?_⟩; have n0_ := Aside0.mk (below_step (by repeat (first | (with_reducible first | exact HB.out | apply below_alloc | apply pw_below_drewN | apply below_drew1) | exact HB.out)) hb); clear HB; have HB := n0_; clear n0_; (try clear hb); (try clear hb2); (try clear hk); (try clear hi)))
        go_ret
        exact ⟨by first | rfl | (simp [errW_none, errW_some] <;> rfl) | (simp [*, errW_none, errW_some] <;> rfl), by repeat (first | (with_reducible first | exact HB.out | apply below_alloc | apply pw_below_drewN | apply below_drew1) | exact HB.out)⟩

end Go.Proofs.YtpfhgolamlnhiaaDoor.XE

namespace Go.Proofs.YtpfhgolamlnhiaaDoor.XE
open Go.RowKit Go.Proofs.YtpfhgolamlnhiaaDoor Go.Proofs.YtpfhgolamlnhiaaDoor.XT Go.Proofs.YtpfhgolamlnhiaaDoor.XA Go.Proofs.YtpfhgolamlnhiaaDoor.XB Go.Proofs.YtpfhgolamlnhiaaDoor.XC Go.Proofs.YtpfhgolamlnhiaaDoorW.PrintWords Go.Proofs.YtpfhgolamlnhiaaDoorW.PrintLast Go.Proofs.YtpfhgolamlnhiaaDoorW.PrintMore
attribute [local go_sem] max2_int min2_int max_two min_two max_three min_three max_four min_four   -- for this text's walks alone
set_option linter.unusedVariables false
set_option linter.unusedSimpArgs false

end Go.Proofs.YtpfhgolamlnhiaaDoor.XE
