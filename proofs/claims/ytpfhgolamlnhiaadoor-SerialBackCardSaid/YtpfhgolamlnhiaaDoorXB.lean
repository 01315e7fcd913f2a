-- Written by wip/tools/px.py for this claim, by way of the kit's print of the translation. Lean checks it.
import Derived.Test.YtpfhgolamlnhiaaDoorXB1
namespace Go.Proofs.YtpfhgolamlnhiaaDoor.XB
open Go.RowKit Go.Proofs.YtpfhgolamlnhiaaDoor Go.Proofs.YtpfhgolamlnhiaaDoor.XT Go.Proofs.YtpfhgolamlnhiaaDoor.XA Go.Proofs.YtpfhgolamlnhiaaDoorW.PrintWords Go.Proofs.YtpfhgolamlnhiaaDoorW.PrintLast Go.Proofs.YtpfhgolamlnhiaaDoorW.PrintMore
attribute [local go_sem] max2_int min2_int max_two min_two max_three min_three max_four min_four   -- for this text's walks alone
set_option linter.unusedVariables false
set_option linter.unusedSimpArgs false

/-! ### tree_Right: function 37 -/
mutual
def tree_Right.j0 : Nat → List (S37) → Bool → Option (Int)
 | 0, _, _ => none
 | k + 1, x0, x30 => if x30 = true then (some 53) else (if 0 ≤ (x0.length : Int) then (if ((x0.length : Int) : Int).toNat ≤ 35184372088832 then (tree_Right.l0 k x0 (([0] : List Int)) (List.replicate ((x0.length : Int) : Int).toNat 0) x0 (x0.length : Int) 0) else (none)) else (none))
def tree_Right.l0 : Nat → List (S37) → List Int → List Int → List (S37) → Int → Int → Option (Int)
 | 0, _, _, _, _, _, _ => none
 | k + 1, x0, x3, x4, x35, x36, x37 => if x37 < x36 then (if 0 ≤ x37 then (if x37 < (x35.length : Int) then (if x37 > 0 then (tree_Right.l1 k x0 x3 x4 x37 x35 x36 x37 ((rd_T37 x35 x37).f0) ((rd_T37 x35 x37).f1) ((rd_T37 x35 x37).f2) ((rd_T37 x35 x37).f3) ((rd_T37 x35 x37).f4) ((rd_T37 x35 x37).f5)) else (tree_Right.j3 k x0 x3 x4 x37 x35 x36 x37)) else (none)) else (none)) else (tree_Right.l2 k x4 x0 (x0.length : Int) 0)
def tree_Right.j3 : Nat → List (S37) → List Int → List Int → Int → List (S37) → Int → Int → Option (Int)
 | 0, _, _, _, _, _, _, _ => none
 | k + 1, x0, x3, x4, x5, x35, x36, x37 => (tree_fits.f k x0 x3 x5).bind fun t142 => (if t142 = true then (if x5 > 0 then (if x3.length < 17592186044416 then (tree_Right.l0 k x0 (x3 ++ [x5]) x4 x35 x36 (wrap64 (x37 + 1))) else (none)) else (tree_Right.l0 k x0 x3 x4 x35 x36 (wrap64 (x37 + 1)))) else (some 53))
def tree_Right.l1 : Nat → List (S37) → List Int → List Int → Int → List (S37) → Int → Int → Int → ByteArray → List (S43) → ByteArray → Int → List Int → Option (Int)
 | 0, _, _, _, _, _, _, _, _, _, _, _, _, _ => none
 | k + 1, x0, x3, x4, x5, x35, x36, x37, x124000, x124001, x124002, x124003, x124004, x124005 => if (x3.length : Int) > 0 then (if 0 ≤ (wrap64 ((x3.length : Int) - 1)) then (if (wrap64 ((x3.length : Int) - 1)) < (x3.length : Int) then (if (rd x3 (wrap64 ((x3.length : Int) - 1))) = x124004 then (if (x3.length : Int) = 0 then (some 53) else (if 0 ≤ x124004 then (if x124004 < (x4.length : Int) then (if x124004 < (x0.length : Int) then (if (rd x4 x124004) ≥ (((rd_T37 x0 x124004).f5).length : Int) then (some 53) else (if 0 ≤ (rd x4 x124004) then (if (rd x4 x124004) < (((rd_T37 x0 x124004).f5).length : Int) then (if (rd ((rd_T37 x0 x124004).f5) (rd x4 x124004)) = x5 then (tree_Right.j3 k x0 x3 (x4.set (x124004 : Int).toNat (wrap64 ((rd x4 x124004) + 1))) x5 x35 x36 x37) else (some 53)) else (none)) else (none))) else (none)) else (none)) else (none))) else (if (wrap64 ((x3.length : Int) - 1)) ≤ (x3.length : Int) then (tree_Right.l1 k x0 (x3.take ((wrap64 ((x3.length : Int) - 1)) : Int).toNat) x4 x5 x35 x36 x37 x124000 x124001 x124002 x124003 x124004 x124005) else (none))) else (none)) else (none)) else (if (x3.length : Int) = 0 then (some 53) else (if 0 ≤ x124004 then (if x124004 < (x4.length : Int) then (if x124004 < (x0.length : Int) then (if (rd x4 x124004) ≥ (((rd_T37 x0 x124004).f5).length : Int) then (some 53) else (if 0 ≤ (rd x4 x124004) then (if (rd x4 x124004) < (((rd_T37 x0 x124004).f5).length : Int) then (if (rd ((rd_T37 x0 x124004).f5) (rd x4 x124004)) = x5 then (tree_Right.j3 k x0 x3 (x4.set (x124004 : Int).toNat (wrap64 ((rd x4 x124004) + 1))) x5 x35 x36 x37) else (some 53)) else (none)) else (none))) else (none)) else (none)) else (none)))
def tree_Right.l2 : Nat → List Int → List (S37) → Int → Int → Option (Int)
 | 0, _, _, _, _ => none
 | k + 1, x4, x117, x118, x119 => if x119 < x118 then (if 0 ≤ x119 then (if x119 < (x117.length : Int) then (if x119 < (x4.length : Int) then (if (rd x4 x119) = (((rd_T37 x117 x119).f5).length : Int) then (tree_Right.l2 k x4 x117 x118 (wrap64 (x119 + 1))) else (some 53)) else (none)) else (none)) else (none)) else (some 0)
end
def tree_Right.f (k : Nat) (l0 : List (S37)) : Option (Int) := if (l0.length : Int) = 0 then (tree_Right.j0 k l0 true) else (if (l0.length : Int) > 16384 then (tree_Right.j0 k l0 true) else (if 0 < (l0.length : Int) then (if ((rd_T37 l0 0).f0) = 0 then (tree_Right.j0 k l0 (((rd_T37 l0 0).f4) != (-1))) else (tree_Right.j0 k l0 true)) else (none)))
theorem tree_Right.mono_l : ∀ k, (∀ y0 y1, LeO (tree_Right.j0 k y0 y1) (tree_Right.j0 (k + 1) y0 y1)) ∧ (∀ y0 y1 y2 y3 y4 y5, LeO (tree_Right.l0 k y0 y1 y2 y3 y4 y5) (tree_Right.l0 (k + 1) y0 y1 y2 y3 y4 y5)) ∧ (∀ y0 y1 y2 y3 y4 y5 y6, LeO (tree_Right.j3 k y0 y1 y2 y3 y4 y5 y6) (tree_Right.j3 (k + 1) y0 y1 y2 y3 y4 y5 y6)) ∧ (∀ y0 y1 y2 y3 y4 y5 y6 y7 y8 y9 y10 y11 y12, LeO (tree_Right.l1 k y0 y1 y2 y3 y4 y5 y6 y7 y8 y9 y10 y11 y12) (tree_Right.l1 (k + 1) y0 y1 y2 y3 y4 y5 y6 y7 y8 y9 y10 y11 y12)) ∧ (∀ y0 y1 y2 y3, LeO (tree_Right.l2 k y0 y1 y2 y3) (tree_Right.l2 (k + 1) y0 y1 y2 y3))
 | 0 => ⟨fun _ _ r h => by simp [tree_Right.j0] at h, fun _ _ _ _ _ _ r h => by simp [tree_Right.l0] at h, fun _ _ _ _ _ _ _ r h => by simp [tree_Right.j3] at h, fun _ _ _ _ _ _ _ _ _ _ _ _ _ r h => by simp [tree_Right.l1] at h, fun _ _ _ _ r h => by simp [tree_Right.l2] at h⟩
 | k + 1 => by
  obtain ⟨ih0, ih1, ih2, ih3, ih4⟩ := tree_Right.mono_l k
  refine ⟨?_, ?_, ?_, ?_, ?_⟩
  ·intro y0 y1
   unfold tree_Right.j0
   repeat' first
   | (with_reducible exact ih0 _ _)
   | (with_reducible exact ih1 _ _ _ _ _ _)
   | (with_reducible exact ih2 _ _ _ _ _ _ _)
   | (with_reducible exact ih3 _ _ _ _ _ _ _ _ _ _ _ _ _)
   | (with_reducible exact ih4 _ _ _ _)
   | (with_reducible exact tree_fits.mono _ _ _ _)
   | (with_reducible exact LeO.refl _)
   | (with_reducible exact LeO.none _)
   | (with_reducible refine LeO.ite ?_ ?_)
   | (with_reducible refine LeO.bind ?_ (fun _ => ?_))
   | exact ih0 _ _
   | exact ih1 _ _ _ _ _ _
   | exact ih2 _ _ _ _ _ _ _
   | exact ih3 _ _ _ _ _ _ _ _ _ _ _ _ _
   | exact ih4 _ _ _ _
   | exact tree_fits.mono _ _ _ _
   | exact LeO.none _
   | refine LeO.ite ?_ ?_
   | refine LeO.bind ?_ (fun _ => ?_)
  ·intro y0 y1 y2 y3 y4 y5
   unfold tree_Right.l0
   repeat' first
   | (with_reducible exact ih0 _ _)
   | (with_reducible exact ih1 _ _ _ _ _ _)
   | (with_reducible exact ih2 _ _ _ _ _ _ _)
   | (with_reducible exact ih3 _ _ _ _ _ _ _ _ _ _ _ _ _)
   | (with_reducible exact ih4 _ _ _ _)
   | (with_reducible exact tree_fits.mono _ _ _ _)
   | (with_reducible exact LeO.refl _)
   | (with_reducible exact LeO.none _)
   | (with_reducible refine LeO.ite ?_ ?_)
   | (with_reducible refine LeO.bind ?_ (fun _ => ?_))
   | exact ih0 _ _
   | exact ih1 _ _ _ _ _ _
   | exact ih2 _ _ _ _ _ _ _
   | exact ih3 _ _ _ _ _ _ _ _ _ _ _ _ _
   | exact ih4 _ _ _ _
   | exact tree_fits.mono _ _ _ _
   | exact LeO.none _
   | refine LeO.ite ?_ ?_
   | refine LeO.bind ?_ (fun _ => ?_)
  ·intro y0 y1 y2 y3 y4 y5 y6
   unfold tree_Right.j3
   repeat' first
   | (with_reducible exact ih0 _ _)
   | (with_reducible exact ih1 _ _ _ _ _ _)
   | (with_reducible exact ih2 _ _ _ _ _ _ _)
   | (with_reducible exact ih3 _ _ _ _ _ _ _ _ _ _ _ _ _)
   | (with_reducible exact ih4 _ _ _ _)
   | (with_reducible exact tree_fits.mono _ _ _ _)
   | (with_reducible exact LeO.refl _)
   | (with_reducible exact LeO.none _)
   | (with_reducible refine LeO.ite ?_ ?_)
   | (with_reducible refine LeO.bind ?_ (fun _ => ?_))
   | exact ih0 _ _
   | exact ih1 _ _ _ _ _ _
   | exact ih2 _ _ _ _ _ _ _
   | exact ih3 _ _ _ _ _ _ _ _ _ _ _ _ _
   | exact ih4 _ _ _ _
   | exact tree_fits.mono _ _ _ _
   | exact LeO.none _
   | refine LeO.ite ?_ ?_
   | refine LeO.bind ?_ (fun _ => ?_)
  ·intro y0 y1 y2 y3 y4 y5 y6 y7 y8 y9 y10 y11 y12
   unfold tree_Right.l1
   repeat' first
   | (with_reducible exact ih0 _ _)
   | (with_reducible exact ih1 _ _ _ _ _ _)
   | (with_reducible exact ih2 _ _ _ _ _ _ _)
   | (with_reducible exact ih3 _ _ _ _ _ _ _ _ _ _ _ _ _)
   | (with_reducible exact ih4 _ _ _ _)
   | (with_reducible exact tree_fits.mono _ _ _ _)
   | (with_reducible exact LeO.refl _)
   | (with_reducible exact LeO.none _)
   | (with_reducible refine LeO.ite ?_ ?_)
   | (with_reducible refine LeO.bind ?_ (fun _ => ?_))
   | exact ih0 _ _
   | exact ih1 _ _ _ _ _ _
   | exact ih2 _ _ _ _ _ _ _
   | exact ih3 _ _ _ _ _ _ _ _ _ _ _ _ _
   | exact ih4 _ _ _ _
   | exact tree_fits.mono _ _ _ _
   | exact LeO.none _
   | refine LeO.ite ?_ ?_
   | refine LeO.bind ?_ (fun _ => ?_)
  ·intro y0 y1 y2 y3
   unfold tree_Right.l2
   repeat' first
   | (with_reducible exact ih0 _ _)
   | (with_reducible exact ih1 _ _ _ _ _ _)
   | (with_reducible exact ih2 _ _ _ _ _ _ _)
   | (with_reducible exact ih3 _ _ _ _ _ _ _ _ _ _ _ _ _)
   | (with_reducible exact ih4 _ _ _ _)
   | (with_reducible exact tree_fits.mono _ _ _ _)
   | (with_reducible exact LeO.refl _)
   | (with_reducible exact LeO.none _)
   | (with_reducible refine LeO.ite ?_ ?_)
   | (with_reducible refine LeO.bind ?_ (fun _ => ?_))
   | exact ih0 _ _
   | exact ih1 _ _ _ _ _ _
   | exact ih2 _ _ _ _ _ _ _
   | exact ih3 _ _ _ _ _ _ _ _ _ _ _ _ _
   | exact ih4 _ _ _ _
   | exact tree_fits.mono _ _ _ _
   | exact LeO.none _
   | refine LeO.ite ?_ ?_
   | refine LeO.bind ?_ (fun _ => ?_)
theorem tree_Right.mono : ∀ a0 k, LeO (tree_Right.f k a0) (tree_Right.f (k + 1) a0) := by
 intro a0 k
 obtain ⟨ih0, ih1, ih2, ih3, ih4⟩ := tree_Right.mono_l k
 unfold tree_Right.f
 repeat' first
   | (with_reducible exact ih0 _ _)
   | (with_reducible exact ih1 _ _ _ _ _ _)
   | (with_reducible exact ih2 _ _ _ _ _ _ _)
   | (with_reducible exact ih3 _ _ _ _ _ _ _ _ _ _ _ _ _)
   | (with_reducible exact ih4 _ _ _ _)
   | (with_reducible exact tree_fits.mono _ _ _ _)
   | (with_reducible exact LeO.refl _)
   | (with_reducible exact LeO.none _)
   | (with_reducible refine LeO.ite ?_ ?_)
   | (with_reducible refine LeO.bind ?_ (fun _ => ?_))
   | exact ih0 _ _
   | exact ih1 _ _ _ _ _ _
   | exact ih2 _ _ _ _ _ _ _
   | exact ih3 _ _ _ _ _ _ _ _ _ _ _ _ _
   | exact ih4 _ _ _ _
   | exact tree_fits.mono _ _ _ _
   | exact LeO.none _
   | refine LeO.ite ?_ ?_
   | refine LeO.bind ?_ (fun _ => ?_)
set_option maxHeartbeats 80000000 in
set_option maxRecDepth 100000 in
theorem tree_Right.calls (k : Nat) (A0 : Option Addr) (c0 : Nat) (l0 : List (S37)) (r : Int) (w : World) (hr0 : Kd.C k37 w A0 l0.length l0) (hc0 : l0.length ≤ c0) (h : tree_Right.f k l0 = some r) (hG1 : G1 w) :
  Calls Tryd.prog 37 #[.slice A0 l0.length c0] w fun e w' => e = .returned (.int .i64 r) ∧ Below w.heap.size w w' := by
 have hu37 := Tryd.underlying37
 have HR0 := Aside0.mk hr0
 have HC0 := Aside0.mk hc0
 clear hr0 hc0
 have HB := Aside0.mk (Below.refl w.heap.size w)
 have H : (if (l0.length : Int) = 0 then (tree_Right.j0 k l0 true) else (if (l0.length : Int) > 16384 then (tree_Right.j0 k l0 true) else (if 0 < (l0.length : Int) then (if ((rd_T37 l0 0).f0) = 0 then (tree_Right.j0 k l0 (((rd_T37 l0 0).f4) != (-1))) else (tree_Right.j0 k l0 true)) else (none)))) = some r := h
 clear h
 have HC2 := Aside0.mk H
 clear H
 go_enter Tryd.func37, Tryd.ntmps37
 go_upto_region 1 with (fail)
 repeat (go_quiet (fail); go_upto_region 1 with (fail))
 go_cut [30] (fun v30 wc => ∃ (kq : Nat) (x30_1 : Bool), v30 = .bool x30_1 ∧ Aside0 (tree_Right.j0 kq l0 x30_1 = some r) ∧ Aside0 (kq ≤ k) ∧ Aside0 (Below w.heap.size w wc))
 case first =>
  have H := HC2.out
  clear HC2
  by_cases c3 : (l0.length : Int) = 0
  ·rw [if_pos c3] at H
   have c3b0 : ((l0.length : Int) == 0) = true := beq_iff_eq.mpr c3
   have c3b1 : ((l0.length : Int) != 0) = false := bne_eq_false_iff_eq.mpr c3
   clear c3
   (first | rw [c3b0] | (simp only [i64_w, i32_w]; rw [c3b0]) | skip)
   have H' := Aside0.mk H
   clear H
   go_wp2
   repeat (go_quiet (fail); try go_wp2)
   go_meet
   case rel => exact ⟨_, (true), (by first | rfl | (simp; done) | (simp [*]; done) | (simp [bne, List.isEmpty_iff]; done) | (simp [bne, List.isEmpty_iff, *]; done) | (simp [bne]; rfl)), H', ⟨by first | omega | exact Nat.le_refl _⟩, ⟨by repeat (first | (with_reducible first | exact HB.out | apply below_alloc | apply pw_below_drewN | apply below_drew1) | exact HB.out)⟩⟩
  ·rw [if_neg c3] at H
   have c3b0 : ((l0.length : Int) == 0) = false := beq_eq_false_iff_ne.mpr c3
   have c3b1 : ((l0.length : Int) != 0) = true := bne_iff_ne.mpr c3
   have c3b2 : ¬ (l0 = []) := fun h_ => c3 (by rw [h_]; rfl)
   (first | rw [c3b0] | (simp only [i64_w, i32_w]; rw [c3b0]) | skip)
   by_cases c4 : (l0.length : Int) > 16384
   ·rw [if_pos c4] at H
    have c4b0 : decide (16384 < (l0.length : Int)) = true := decide_eq_true c4
    have c4b1 : decide (16384 < l0.length) = true := decide_eq_true (by omega)
    clear c4
    have H' := Aside0.mk H
    clear H
    go_wp2
    repeat (go_quiet (fail); try go_wp2)
    go_meet
    case rel => exact ⟨_, (true), (by first | rfl | (simp; done) | (simp [*]; done) | (simp [bne, List.isEmpty_iff]; done) | (simp [bne, List.isEmpty_iff, *]; done) | (simp [bne]; rfl)), H', ⟨by first | omega | exact Nat.le_refl _⟩, ⟨by repeat (first | (with_reducible first | exact HB.out | apply below_alloc | apply pw_below_drewN | apply below_drew1) | exact HB.out)⟩⟩
   ·rw [if_neg c4] at H
    have c4b0 : decide (16384 < (l0.length : Int)) = false := decide_eq_false c4
    have c4b1 : decide (16384 < l0.length) = false := decide_eq_false (by omega)
    clear c4
    by_cases c5 : 0 < (l0.length : Int)
    ·rw [if_pos c5] at H
     have c5b0 : decide (0 < (l0.length : Int)) = true := decide_eq_true c5
     have c5b1 : decide (0 < l0.length) = true := decide_eq_true (by omega)
     clear c5
     by_cases c6 : ((rd_T37 l0 0).f0) = 0
     ·rw [if_pos c6] at H
      have c6b0 : (((rd_T37 l0 0).f0) == 0) = true := beq_iff_eq.mpr c6
      have c6b1 : (((rd_T37 l0 0).f0) != 0) = false := bne_eq_false_iff_eq.mpr c6
      clear c6
      have H' := Aside0.mk H
      clear H
      have p114 : 0 ≤ (0 : Int) := (by omega)
      have q114 : 0 < (l0.length : Int) := of_decide_eq_true (by first | (with_reducible assumption) | assumption)
      obtain ⟨ad114, A114_2, c114_2, A114_5, c114_5, e114, hx114_0, hx114_1, hx114_2, hx114_3, hx114_4, hx114_5, hl114_2, hi114_2, hl114_5, hi114_5⟩ := at_T37 HR0.out 0 p114 q114
      cases e114
      have qi114 : (0 < l0.length) = True := eq_true (by omega)
      (try rw [show ((0 : Int)).toNat = 0 from rfl] at hx114_0)
      (try rw [show 0 * 6 = 0 from rfl] at hx114_0)
      (try rw [Addr.add_zero'] at hx114_0)
      (try rw [show ((0 : Int)).toNat = 0 from rfl] at hx114_1)
      (try rw [show 0 * 6 = 0 from rfl] at hx114_1)
      (try rw [Addr.add_zero'] at hx114_1)
      (try rw [show ((0 : Int)).toNat = 0 from rfl] at hx114_2)
      (try rw [show 0 * 6 = 0 from rfl] at hx114_2)
      (try rw [Addr.add_zero'] at hx114_2)
      (try rw [show ((0 : Int)).toNat = 0 from rfl] at hx114_3)
      (try rw [show 0 * 6 = 0 from rfl] at hx114_3)
      (try rw [Addr.add_zero'] at hx114_3)
      (try rw [show ((0 : Int)).toNat = 0 from rfl] at hx114_4)
      (try rw [show 0 * 6 = 0 from rfl] at hx114_4)
      (try rw [Addr.add_zero'] at hx114_4)
      (try rw [show ((0 : Int)).toNat = 0 from rfl] at hx114_5)
      (try rw [show 0 * 6 = 0 from rfl] at hx114_5)
      (try rw [Addr.add_zero'] at hx114_5)
      replace hx114_0 := (HB.out.cell (World.block_lt_of_cell? w _ hx114_0)).trans hx114_0
      replace hx114_1 := (HB.out.cell (World.block_lt_of_cell? w _ hx114_1)).trans hx114_1
      replace hx114_2 := (HB.out.cell (World.block_lt_of_cell? w _ hx114_2)).trans hx114_2
      replace hx114_3 := (HB.out.cell (World.block_lt_of_cell? w _ hx114_3)).trans hx114_3
      replace hx114_4 := (HB.out.cell (World.block_lt_of_cell? w _ hx114_4)).trans hx114_4
      replace hx114_5 := (HB.out.cell (World.block_lt_of_cell? w _ hx114_5)).trans hx114_5
      have HR114_2 := Aside0.mk hi114_2
      have HC114_2 := Aside0.mk hl114_2
      clear hi114_2 hl114_2
      have HR114_5 := Aside0.mk hi114_5
      have HC114_5 := Aside0.mk hl114_5
      clear hi114_5 hl114_5
      replace p114 := eq_true p114
      replace q114 := eq_true q114
      have p115 : 0 ≤ (0 : Int) := (by omega)
      have q115 : 0 < (l0.length : Int) := of_decide_eq_true (by first | (with_reducible assumption) | assumption)
      obtain ⟨ad115, A115_2, c115_2, A115_5, c115_5, e115, hx115_0, hx115_1, hx115_2, hx115_3, hx115_4, hx115_5, hl115_2, hi115_2, hl115_5, hi115_5⟩ := at_T37 HR0.out 0 p115 q115
      obtain rfl : ad114 = ad115 := (by injection e115)
      have qi115 : (0 < l0.length) = True := eq_true (by omega)
      (try rw [show ((0 : Int)).toNat = 0 from rfl] at hx115_0)
      (try rw [show 0 * 6 = 0 from rfl] at hx115_0)
      (try rw [Addr.add_zero'] at hx115_0)
      (try rw [show ((0 : Int)).toNat = 0 from rfl] at hx115_1)
      (try rw [show 0 * 6 = 0 from rfl] at hx115_1)
      (try rw [Addr.add_zero'] at hx115_1)
      (try rw [show ((0 : Int)).toNat = 0 from rfl] at hx115_2)
      (try rw [show 0 * 6 = 0 from rfl] at hx115_2)
      (try rw [Addr.add_zero'] at hx115_2)
      (try rw [show ((0 : Int)).toNat = 0 from rfl] at hx115_3)
      (try rw [show 0 * 6 = 0 from rfl] at hx115_3)
      (try rw [Addr.add_zero'] at hx115_3)
      (try rw [show ((0 : Int)).toNat = 0 from rfl] at hx115_4)
      (try rw [show 0 * 6 = 0 from rfl] at hx115_4)
      (try rw [Addr.add_zero'] at hx115_4)
      (try rw [show ((0 : Int)).toNat = 0 from rfl] at hx115_5)
      (try rw [show 0 * 6 = 0 from rfl] at hx115_5)
      (try rw [Addr.add_zero'] at hx115_5)
      replace hx115_0 := (HB.out.cell (World.block_lt_of_cell? w _ hx115_0)).trans hx115_0
      replace hx115_1 := (HB.out.cell (World.block_lt_of_cell? w _ hx115_1)).trans hx115_1
      replace hx115_2 := (HB.out.cell (World.block_lt_of_cell? w _ hx115_2)).trans hx115_2
      replace hx115_3 := (HB.out.cell (World.block_lt_of_cell? w _ hx115_3)).trans hx115_3
      replace hx115_4 := (HB.out.cell (World.block_lt_of_cell? w _ hx115_4)).trans hx115_4
      replace hx115_5 := (HB.out.cell (World.block_lt_of_cell? w _ hx115_5)).trans hx115_5
      have HR115_2 := Aside0.mk hi115_2
      have HC115_2 := Aside0.mk hl115_2
      clear hi115_2 hl115_2
      have HR115_5 := Aside0.mk hi115_5
      have HC115_5 := Aside0.mk hl115_5
      clear hi115_5 hl115_5
      replace p115 := eq_true p115
      replace q115 := eq_true q115
      have ea_ := Option.some.inj (hx114_2.symm.trans hx115_2)
      injection ea_ with ea_ en_ ec_
      subst ea_
      subst ec_
      clear en_
      have ea_ := Option.some.inj (hx114_5.symm.trans hx115_5)
      injection ea_ with ea_ en_ ec_
      subst ea_
      subst ec_
      clear en_
      go_wp2
      repeat (go_quiet (fail); try go_wp2)
      go_meet
      case rel => exact ⟨_, ((((rd_T37 l0 0).f4) != (-1))), (by first | rfl | (simp; done) | (simp [*]; done) | (simp [bne, List.isEmpty_iff]; done) | (simp [bne, List.isEmpty_iff, *]; done) | (simp [bne]; rfl)), H', ⟨by first | omega | exact Nat.le_refl _⟩, ⟨by repeat (first | (with_reducible first | exact HB.out | apply below_alloc | apply pw_below_drewN | apply below_drew1) | exact HB.out)⟩⟩
     ·rw [if_neg c6] at H
      have c6b0 : (((rd_T37 l0 0).f0) == 0) = false := beq_eq_false_iff_ne.mpr c6
      have c6b1 : (((rd_T37 l0 0).f0) != 0) = true := bne_iff_ne.mpr c6
      have H' := Aside0.mk H
      clear H
      have p114 : 0 ≤ (0 : Int) := (by omega)
      have q114 : 0 < (l0.length : Int) := of_decide_eq_true (by first | (with_reducible assumption) | assumption)
      obtain ⟨ad114, A114_2, c114_2, A114_5, c114_5, e114, hx114_0, hx114_1, hx114_2, hx114_3, hx114_4, hx114_5, hl114_2, hi114_2, hl114_5, hi114_5⟩ := at_T37 HR0.out 0 p114 q114
      cases e114
      have qi114 : (0 < l0.length) = True := eq_true (by omega)
      (try rw [show ((0 : Int)).toNat = 0 from rfl] at hx114_0)
      (try rw [show 0 * 6 = 0 from rfl] at hx114_0)
      (try rw [Addr.add_zero'] at hx114_0)
      (try rw [show ((0 : Int)).toNat = 0 from rfl] at hx114_1)
      (try rw [show 0 * 6 = 0 from rfl] at hx114_1)
      (try rw [Addr.add_zero'] at hx114_1)
      (try rw [show ((0 : Int)).toNat = 0 from rfl] at hx114_2)
      (try rw [show 0 * 6 = 0 from rfl] at hx114_2)
      (try rw [Addr.add_zero'] at hx114_2)
      (try rw [show ((0 : Int)).toNat = 0 from rfl] at hx114_3)
      (try rw [show 0 * 6 = 0 from rfl] at hx114_3)
      (try rw [Addr.add_zero'] at hx114_3)
      (try rw [show ((0 : Int)).toNat = 0 from rfl] at hx114_4)
      (try rw [show 0 * 6 = 0 from rfl] at hx114_4)
      (try rw [Addr.add_zero'] at hx114_4)
      (try rw [show ((0 : Int)).toNat = 0 from rfl] at hx114_5)
      (try rw [show 0 * 6 = 0 from rfl] at hx114_5)
      (try rw [Addr.add_zero'] at hx114_5)
      replace hx114_0 := (HB.out.cell (World.block_lt_of_cell? w _ hx114_0)).trans hx114_0
      replace hx114_1 := (HB.out.cell (World.block_lt_of_cell? w _ hx114_1)).trans hx114_1
      replace hx114_2 := (HB.out.cell (World.block_lt_of_cell? w _ hx114_2)).trans hx114_2
      replace hx114_3 := (HB.out.cell (World.block_lt_of_cell? w _ hx114_3)).trans hx114_3
      replace hx114_4 := (HB.out.cell (World.block_lt_of_cell? w _ hx114_4)).trans hx114_4
      replace hx114_5 := (HB.out.cell (World.block_lt_of_cell? w _ hx114_5)).trans hx114_5
      have HR114_2 := Aside0.mk hi114_2
      have HC114_2 := Aside0.mk hl114_2
      clear hi114_2 hl114_2
      have HR114_5 := Aside0.mk hi114_5
      have HC114_5 := Aside0.mk hl114_5
      clear hi114_5 hl114_5
      replace p114 := eq_true p114
      replace q114 := eq_true q114
      go_wp2
      repeat (go_quiet (fail); try go_wp2)
      go_meet
      case rel => exact ⟨_, (true), (by first | rfl | (simp; done) | (simp [*]; done) | (simp [bne, List.isEmpty_iff]; done) | (simp [bne, List.isEmpty_iff, *]; done) | (simp [bne]; rfl)), H', ⟨by first | omega | exact Nat.le_refl _⟩, ⟨by repeat (first | (with_reducible first | exact HB.out | apply below_alloc | apply pw_below_drewN | apply below_drew1) | exact HB.out)⟩⟩
    ·rw [if_neg c5] at H
     exact absurd H (by simp)
 case rest =>
  clear HC2
  try clear c1
  try clear p1
  try clear q1
  try clear hx1
  try clear qi1
  try clear p2
  try clear c3
  try clear c3b0
  try clear c3b1
  try clear c3b2
  try clear c4
  try clear c4b0
  try clear c4b1
  try clear c5
  try clear c5b0
  try clear c5b1
  try clear c6
  try clear c6b0
  try clear c6b1
  try clear hx114_0
  try clear hx114_1
  try clear hx114_2
  try clear hx114_3
  try clear hx114_4
  try clear hx114_5
  try clear hx115_0
  try clear hx115_1
  try clear hx115_2
  try clear hx115_3
  try clear hx115_4
  try clear hx115_5
  try clear p114
  try clear p115
  try clear q114
  try clear q115
  obtain ⟨kq, x30_1, rfl, HA, HJ1, HB⟩ := hcut
  cases kq with
  | zero => exact absurd HA.out (by simp [tree_Right.j0])
  | succ kj1 =>
   have H := HA.out
   clear HA
   simp only [tree_Right.j0] at H
   by_cases c7 : x30_1 = true
   ·subst c7
    have H1 : (some 53) = some r := by rw [if_pos rfl] at H; exact H
    clear H
    have H := H1
    clear H1
    obtain rfl := Option.some.inj H
    go_wp2
    repeat (go_quiet (fail); try go_wp2)
    go_ret
    exact ⟨by first | rfl | (simp [errW_none, errW_some] <;> rfl) | (simp [*, errW_none, errW_some] <;> rfl), by repeat (first | (with_reducible first | exact HB.out | apply below_alloc | apply pw_below_drewN | apply below_drew1) | exact HB.out)⟩
   ·replace c7 := Bool.eq_false_iff.mpr c7
    subst c7
    have H1 : (if 0 ≤ (l0.length : Int) then (if ((l0.length : Int) : Int).toNat ≤ 35184372088832 then (tree_Right.l0 kj1 l0 (([0] : List Int)) (List.replicate ((l0.length : Int) : Int).toNat 0) l0 (l0.length : Int) 0) else (none)) else (none)) = some r := by rw [if_neg (show ¬ (false = true) by decide)] at H; exact H
    clear H
    have H := H1
    clear H1
    obtain ⟨y116, hy116⟩ : ∃ y_ : List Int, y_ = (([0] : List Int)) := ⟨_, rfl⟩
    replace H : (if 0 ≤ (l0.length : Int) then (if ((l0.length : Int) : Int).toNat ≤ 35184372088832 then (tree_Right.l0 kj1 l0 y116 (List.replicate ((l0.length : Int) : Int).toNat 0) l0 (l0.length : Int) 0) else (none)) else (none)) = some r := by first | (rw [hy116]; with_reducible exact H) | (have H2_ := (Option.bind_some _ _).symm.trans H; rw [hy116]; with_reducible exact H2_) | (have H2_ := (Option.bind_some _ _).symm.trans H; with_reducible exact H2_) | with_reducible exact H | (rw [hy116]; exact H) | exact H
    have Ny116 := Aside0.mk hy116
    clear hy116
    by_cases c8 : 0 ≤ (l0.length : Int)
    ·rw [if_pos c8] at H
     have c8b0 := eq_true c8
     have c8b1 : decide (0 ≤ (l0.length : Int)) = true := decide_eq_true c8
     clear c8
     by_cases c9 : ((l0.length : Int) : Int).toNat ≤ 35184372088832
     ·rw [if_pos c9] at H
      have c9b0 := eq_true c9
      have c9b1 : decide (((l0.length : Int) : Int).toNat ≤ 35184372088832) = true := decide_eq_true c9
      clear c9
      obtain ⟨y119, hy119⟩ : ∃ y_ : List Int, y_ = (List.replicate ((l0.length : Int) : Int).toNat 0) := ⟨_, rfl⟩
      replace H : (tree_Right.l0 kj1 l0 y116 y119 l0 (l0.length : Int) 0) = some r := by first | (rw [hy119]; with_reducible exact H) | (have H2_ := (Option.bind_some _ _).symm.trans H; rw [hy119]; with_reducible exact H2_) | (have H2_ := (Option.bind_some _ _).symm.trans H; with_reducible exact H2_) | with_reducible exact H | (rw [hy119]; exact H) | exact H
      have Ny119 := Aside0.mk hy119
      clear hy119
      have H' := Aside0.mk H
      clear H
      go_wp2_with (first | ((with_reducible refine gate_dst (N := 31) rfl ?_); (try (refine gate_guard (by rfl) ?_; dsimp only)); refine Kd.R_lit (Kd.int .i64) _ 3 ?hg (N := 31) ?hd (xs := ([0] : List Int)) (inner := [.int .i64 0]) (ok := fun _ => True) (okp := fun _ => True) ?hr ?hp (fun _ hk => hk) trivial (Below.refl _ _) (Nat.le_refl _) (by simp) ?_; (case hd => rfl); (case hg => rfl); (case hr => first | (go_simp; done) | (go_simp; rfl)); (case hp => exact (Reps.one (show Kd.M (Kd.int .i64) _ _ _ 0 [.int .i64 0] from rfl) (Reps.none _ _))); intro v117 w10 ho11 hb hg_ hnew_; clear hg_ hnew_; (first | rw [← Ny116.out] at ho11 | (simp only [Int.reduceToNat] at ho11; rw [← Ny116.out] at ho11)); have n0_ := Aside0.mk (Kd.R_lower ho11 (below_size (by repeat (first | (with_reducible first | exact HB.out | apply below_alloc | apply pw_below_drewN | apply below_drew1) | exact HB.out)))); have n1_ := Aside0.mk (below_step (by repeat (first | (with_reducible first | exact HB.out | apply below_alloc | apply pw_below_drewN | apply below_drew1) | exact HB.out)) hb); clear HB; have HO118 := n0_; have HB := n1_; clear n0_ n1_; clear hb ho11) | ((with_reducible refine gate_dst (N := 34) rfl ?_); (try (refine gate_guard (by rfl) ?_; dsimp only)); refine Kd.R_make (Kd.int .i64) _ 3 rfl (N := 34) rfl 35 _ _ rfl (l0.length : Int) rfl rfl Tryd.underlying35 (.int .i64 0) 8 info3 rfl (by decide) (by omega) 0 (ok := fun _ => True) (okp := fun _ => True) rfl (fun _ hk => hk) trivial (of_decide_eq_true (by first | (with_reducible assumption) | assumption)) (Nat.le_trans (Nat.mul_le_mul_right _ (of_decide_eq_true (by first | (with_reducible assumption) | assumption) : (l0.length : Int).toNat ≤ 35184372088832)) (by omega)) (Below.refl _ _) (Nat.le_refl _) ?_; intro v120 w12 ho13 hb hg_ hnew_; clear hg_ hnew_; (first | rw [← Ny119.out] at ho13 | (simp only [Int.reduceToNat] at ho13; rw [← Ny119.out] at ho13)); have n0_ := Aside0.mk (Kd.R_elder' (by (with_reducible repeat (first | apply Kd.R_alloc | apply Kd.R_drewN | apply Kd.R_drew)); exact HO118.out) (Kd.R_base ho13) hb); have n1_ := Aside0.mk (Kd.R_lower (Kd.R_new' ho13 (Kd.R_lt (by (with_reducible repeat (first | apply Kd.R_alloc | apply Kd.R_drewN | apply Kd.R_drew)); exact HO118.out))) (below_size (by repeat (first | (with_reducible first | exact HB.out | apply below_alloc | apply pw_below_drewN | apply below_drew1) | exact HB.out)))); have n2_ := Aside0.mk (below_step (by repeat (first | (with_reducible first | exact HB.out | apply below_alloc | apply pw_below_drewN | apply below_drew1) | exact HB.out)) hb); clear HO118; clear HB; have HO118 := n0_; have HO121 := n1_; have HB := n2_; clear n0_ n1_ n2_; clear hb ho13))
      repeat (go_quiet (first | ((with_reducible refine gate_dst (N := 31) rfl ?_); (try (refine gate_guard (by rfl) ?_; dsimp only)); refine Kd.R_lit (Kd.int .i64) _ 3 ?hg (N := 31) ?hd (xs := ([0] : List Int)) (inner := [.int .i64 0]) (ok := fun _ => True) (okp := fun _ => True) ?hr ?hp (fun _ hk => hk) trivial (Below.refl _ _) (Nat.le_refl _) (by simp) ?_; (case hd => rfl); (case hg => rfl); (case hr => first | (go_simp; done) | (go_simp; rfl)); (case hp => exact (Reps.one (show Kd.M (Kd.int .i64) _ _ _ 0 [.int .i64 0] from rfl) (Reps.none _ _))); intro v117 w10 ho11 hb hg_ hnew_; clear hg_ hnew_; (first | rw [← Ny116.out] at ho11 | (simp only [Int.reduceToNat] at ho11; rw [← Ny116.out] at ho11)); have n0_ := Aside0.mk (Kd.R_lower ho11 (below_size (by repeat (first | (with_reducible first | exact HB.out | apply below_alloc | apply pw_below_drewN | apply below_drew1) | exact HB.out)))); have n1_ := Aside0.mk (below_step (by repeat (first | (with_reducible first | exact HB.out | apply below_alloc | apply pw_below_drewN | apply below_drew1) | exact HB.out)) hb); clear HB; have HO118 := n0_; have HB := n1_; clear n0_ n1_; clear hb ho11) | ((with_reducible refine gate_dst (N := 34) rfl ?_); (try (refine gate_guard (by rfl) ?_; dsimp only)); refine Kd.R_make (Kd.int .i64) _ 3 rfl (N := 34) rfl 35 _ _ rfl (l0.length : Int) rfl rfl Tryd.underlying35 (.int .i64 0) 8 info3 rfl (by decide) (by omega) 0 (ok := fun _ => True) (okp := fun _ => True) rfl (fun _ hk => hk) trivial (of_decide_eq_true (by first | (with_reducible assumption) | assumption)) (Nat.le_trans (Nat.mul_le_mul_right _ (of_decide_eq_true (by first | (with_reducible assumption) | assumption) : (l0.length : Int).toNat ≤ 35184372088832)) (by omega)) (Below.refl _ _) (Nat.le_refl _) ?_; intro v120 w12 ho13 hb hg_ hnew_; clear hg_ hnew_; (first | rw [← Ny119.out] at ho13 | (simp only [Int.reduceToNat] at ho13; rw [← Ny119.out] at ho13)); have n0_ := Aside0.mk (Kd.R_elder' (by (with_reducible repeat (first | apply Kd.R_alloc | apply Kd.R_drewN | apply Kd.R_drew)); exact HO118.out) (Kd.R_base ho13) hb); have n1_ := Aside0.mk (Kd.R_lower (Kd.R_new' ho13 (Kd.R_lt (by (with_reducible repeat (first | apply Kd.R_alloc | apply Kd.R_drewN | apply Kd.R_drew)); exact HO118.out))) (below_size (by repeat (first | (with_reducible first | exact HB.out | apply below_alloc | apply pw_below_drewN | apply below_drew1) | exact HB.out)))); have n2_ := Aside0.mk (below_step (by repeat (first | (with_reducible first | exact HB.out | apply below_alloc | apply pw_below_drewN | apply below_drew1) | exact HB.out)) hb); clear HO118; clear HB; have HO118 := n0_; have HO121 := n1_; have HB := n2_; clear n0_ n1_ n2_; clear hb ho13)); try go_wp2_with (first | ((with_reducible refine gate_dst (N := 31) rfl ?_); (try (refine gate_guard (by rfl) ?_; dsimp only)); refine Kd.R_lit (Kd.int .i64) _ 3 ?hg (N := 31) ?hd (xs := ([0] : List Int)) (inner := [.int .i64 0]) (ok := fun _ => True) (okp := fun _ => True) ?hr ?hp (fun _ hk => hk) trivial (Below.refl _ _) (Nat.le_refl _) (by simp) ?_; (case hd => rfl); (case hg => rfl); (case hr => first | (go_simp; done) | (go_simp; rfl)); (case hp => exact (Reps.one (show Kd.M (Kd.int .i64) _ _ _ 0 [.int .i64 0] from rfl) (Reps.none _ _))); intro v117 w10 ho11 hb hg_ hnew_; clear hg_ hnew_; (first | rw [← Ny116.out] at ho11 | (simp only [Int.reduceToNat] at ho11; rw [← Ny116.out] at ho11)); have n0_ := Aside0.mk (Kd.R_lower ho11 (below_size (by repeat (first | (with_reducible first | exact HB.out | apply below_alloc | apply pw_below_drewN | apply below_drew1) | exact HB.out)))); have n1_ := Aside0.mk (below_step (by repeat (first | (with_reducible first | exact HB.out | apply below_alloc | apply pw_below_drewN | apply below_drew1) | exact HB.out)) hb); clear HB; have HO118 := n0_; have HB := n1_; clear n0_ n1_; clear hb ho11) | ((with_reducible refine gate_dst (N := 34) rfl ?_); (try (refine gate_guard (by rfl) ?_; dsimp only)); refine Kd.R_make (Kd.int .i64) _ 3 rfl (N := 34) rfl 35 _ _ rfl (l0.length : Int) rfl rfl Tryd.underlying35 (.int .i64 0) 8 info3 rfl (by decide) (by omega) 0 (ok := fun _ => True) (okp := fun _ => True) rfl (fun _ hk => hk) trivial (of_decide_eq_true (by first | (with_reducible assumption) | assumption)) (Nat.le_trans (Nat.mul_le_mul_right _ (of_decide_eq_true (by first | (with_reducible assumption) | assumption) : (l0.length : Int).toNat ≤ 35184372088832)) (by omega)) (Below.refl _ _) (Nat.le_refl _) ?_; intro v120 w12 ho13 hb hg_ hnew_; clear hg_ hnew_; (first | rw [← Ny119.out] at ho13 | (simp only [Int.reduceToNat] at ho13; rw [← Ny119.out] at ho13)); have n0_ := Aside0.mk (Kd.R_elder' (by (with_reducible repeat (first | apply Kd.R_alloc | apply Kd.R_drewN | apply Kd.R_drew)); exact HO118.out) (Kd.R_base ho13) hb); have n1_ := Aside0.mk (Kd.R_lower (Kd.R_new' ho13 (Kd.R_lt (by (with_reducible repeat (first | apply Kd.R_alloc | apply Kd.R_drewN | apply Kd.R_drew)); exact HO118.out))) (below_size (by repeat (first | (with_reducible first | exact HB.out | apply below_alloc | apply pw_below_drewN | apply below_drew1) | exact HB.out)))); have n2_ := Aside0.mk (below_step (by repeat (first | (with_reducible first | exact HB.out | apply below_alloc | apply pw_below_drewN | apply below_drew1) | exact HB.out)) hb); clear HO118; clear HB; have HO118 := n0_; have HO121 := n1_; have HB := n2_; clear n0_ n1_ n2_; clear hb ho13)))
      go_loopg [3, 37] kj1 (fun kq v3 v37 w' => ∃ (x3_2 : List Int) (x4_2 : List Int) (x37_2 : Int), v37 = .int .i64 x37_2 ∧ Aside0 (tree_Right.l0 kq l0 x3_2 x4_2 l0 (l0.length : Int) x37_2 = some r) ∧ Aside0 (kq ≤ kj1) ∧ Aside0 (Kd.R (Kd.int .i64) 3 w' w.heap.size (fun k_ => some k_ ≠ (v120 : Value).ownBlock) v3 x3_2) ∧ Aside0 (Kd.R (Kd.int .i64) 3 w' w.heap.size (fun k_ => some k_ ≠ (v3 : Value).ownBlock) v120 x4_2) ∧ Aside0 (Below w.heap.size w w'))
      case atStart => exact ⟨(y116), (y119), (0), (by first | rfl | (simp; done) | (simp [*]; done) | (simp [bne, List.isEmpty_iff]; done) | (simp [bne, List.isEmpty_iff, *]; done) | (simp [bne]; rfl)), H', ⟨Nat.le_refl _⟩, ⟨by (with_reducible repeat (first | apply Kd.R_alloc | apply Kd.R_drewN | apply Kd.R_drew)); exact Kd.R_mono HO118.out (fun _ hk => hk.2)⟩, ⟨by (with_reducible repeat (first | apply Kd.R_alloc | apply Kd.R_drewN | apply Kd.R_drew)); exact Kd.R_mono HO121.out (fun _ hk => hk.2)⟩, ⟨by repeat (first | (with_reducible first | exact HB.out | apply below_alloc | apply pw_below_drewN | apply below_drew1) | exact HB.out)⟩⟩
      case round =>
       clear H'
       try clear c1
       try clear p1
       try clear q1
       try clear hx1
       try clear qi1
       try clear p2
       try clear c3
       try clear c3b0
       try clear c3b1
       try clear c3b2
       try clear c4
       try clear c4b0
       try clear c4b1
       try clear c5
       try clear c5b0
       try clear c5b1
       try clear c6
       try clear c6b0
       try clear c6b1
       try clear c7
       try clear c8
       try clear c8b0
       try clear c8b1
       try clear c9
       try clear c9b0
       try clear c9b1
       try clear c11
       try clear p11
       try clear q11
       try clear hx11
       try clear qi11
       try clear hx114_0
       try clear hx114_1
       try clear hx114_2
       try clear hx114_3
       try clear hx114_4
       try clear hx114_5
       try clear hx115_0
       try clear hx115_1
       try clear hx115_2
       try clear hx115_3
       try clear hx115_4
       try clear hx115_5
       try clear p1
       try clear p114
       try clear p115
       try clear p2
       try clear q1
       try clear q114
       try clear q115
       obtain ⟨x3_2, x4_2, x37_2, rfl, HA, HK2, HO_3, HO_4, HB⟩ := hrel
       cases gk with
       | zero => exact absurd HA.out (by simp [tree_Right.l0])
       | succ k2 =>
        have H := HA.out
        clear HA
        simp only [tree_Right.l0] at H
        by_cases c14 : x37_2 < (l0.length : Int)
        ·rw [if_pos c14] at H
         have c14b0 : decide (x37_2 < (l0.length : Int)) = true := decide_eq_true c14
         clear c14
         by_cases c15 : 0 ≤ x37_2
         ·rw [if_pos c15] at H
          have c15b0 : decide (0 ≤ x37_2) = true := decide_eq_true c15
          clear c15
          by_cases c16 : x37_2 < (l0.length : Int)
          ·rw [if_pos c16] at H
           have c16b0 : decide (x37_2 < (l0.length : Int)) = true := decide_eq_true c16
           clear c16
           have HC17 := Aside0.mk H
           clear H
           have p122 : 0 ≤ (x37_2 : Int) := of_decide_eq_true (by first | (with_reducible assumption) | assumption)
           have q122 : x37_2 < (l0.length : Int) := of_decide_eq_true (by first | (with_reducible assumption) | assumption)
           obtain ⟨ad122, A122_2, c122_2, A122_5, c122_5, e122, hx122_0, hx122_1, hx122_2, hx122_3, hx122_4, hx122_5, hl122_2, hi122_2, hl122_5, hi122_5⟩ := at_T37 HR0.out x37_2 p122 q122
           cases e122
           replace hx122_0 := (HB.out.cell (World.block_lt_of_cell? w _ hx122_0)).trans hx122_0
           replace hx122_1 := (HB.out.cell (World.block_lt_of_cell? w _ hx122_1)).trans hx122_1
           replace hx122_2 := (HB.out.cell (World.block_lt_of_cell? w _ hx122_2)).trans hx122_2
           replace hx122_3 := (HB.out.cell (World.block_lt_of_cell? w _ hx122_3)).trans hx122_3
           replace hx122_4 := (HB.out.cell (World.block_lt_of_cell? w _ hx122_4)).trans hx122_4
           replace hx122_5 := (HB.out.cell (World.block_lt_of_cell? w _ hx122_5)).trans hx122_5
           have HR122_2 := Aside0.mk hi122_2
           have HC122_2 := Aside0.mk hl122_2
           clear hi122_2 hl122_2
           have HR122_5 := Aside0.mk hi122_5
           have HC122_5 := Aside0.mk hl122_5
           clear hi122_5 hl122_5
           replace p122 := eq_true p122
           replace q122 := eq_true q122
           go_upto_if 43 with (first | ((with_reducible refine gate_dst (N := 6) rfl ?_); (try (refine gate_guard (by rfl) ?_; dsimp only)); refine box_event ?hg (N := 6) ?hd (cs := #[.int .u8 0, .string (⟨#[]⟩ : ByteArray), .slice none 0 0, .string (⟨#[]⟩ : ByteArray), .int .i64 0, .slice none 0 0]) (t := 37) ?hr ?_; (case hd => rfl); (case hg => rfl); (case hr => first | (go_simp; done) | (go_simp; rfl)); intro gb123 hg w18 hbox hb; have n0_ := Aside0.mk (Kd.R_below (by (with_reducible repeat (first | apply Kd.R_alloc | apply Kd.R_drewN | apply Kd.R_drew)); exact HO_3.out) hb); have n1_ := Aside0.mk (Kd.R_below (by (with_reducible repeat (first | apply Kd.R_alloc | apply Kd.R_drewN | apply Kd.R_drew)); exact HO_4.out) hb); have n2_ := Aside0.mk (below_step (by repeat (first | (with_reducible first | exact HB.out | apply below_alloc | apply pw_below_drewN | apply below_drew1) | exact HB.out)) hb); have n3_ := Aside0.mk (hbox); have n4_ := Aside0.mk ((by rw [hg]; exact (below_size (by repeat (first | (with_reducible first | exact HB.out | apply below_alloc | apply pw_below_drewN | apply below_drew1) | exact HB.out))) : w.heap.size ≤ gb123)); have n5_ := Aside0.mk ((by rw [hg]; exact (below_size (by repeat (first | (with_reducible first | exact HB.out | apply below_alloc | apply pw_below_drewN | apply below_drew1) | exact HB.out))) : w.heap.size ≤ gb123)); clear HO_3; clear HO_4; clear HB; have HO_3 := n0_; have HO_4 := n1_; have HB := n2_; have BK123 := n3_; have GW123 := n4_; have GE123 := n5_; clear n0_ n1_ n2_ n3_ n4_ n5_; clear hb hbox hg; have hcz19_0 : w18.cell? ⟨gb123, 0, none⟩ = some (.int .u8 0) := (blk_cell BK123.out 0).trans rfl; have hcz19_1 : w18.cell? ⟨gb123, 1, none⟩ = some (.string (⟨#[]⟩ : ByteArray)) := (blk_cell BK123.out 1).trans rfl; have hcz19_2 : w18.cell? ⟨gb123, 2, none⟩ = some (.slice none 0 0) := (blk_cell BK123.out 2).trans rfl; have hcz19_3 : w18.cell? ⟨gb123, 3, none⟩ = some (.string (⟨#[]⟩ : ByteArray)) := (blk_cell BK123.out 3).trans rfl; have hcz19_4 : w18.cell? ⟨gb123, 4, none⟩ = some (.int .i64 0) := (blk_cell BK123.out 4).trans rfl; have hcz19_5 : w18.cell? ⟨gb123, 5, none⟩ = some (.slice none 0 0) := (blk_cell BK123.out 5).trans rfl; have hfz19_0 := blk_frozen BK123.out 0; have hfz19_1 := blk_frozen BK123.out 1; have hfz19_2 := blk_frozen BK123.out 2; have hfz19_3 := blk_frozen BK123.out 3; have hfz19_4 := blk_frozen BK123.out 4; have hfz19_5 := blk_frozen BK123.out 5))
           repeat (go_quiet (first | ((with_reducible refine gate_dst (N := 6) rfl ?_); (try (refine gate_guard (by rfl) ?_; dsimp only)); refine box_event ?hg (N := 6) ?hd (cs := #[.int .u8 0, .string (⟨#[]⟩ : ByteArray), .slice none 0 0, .string (⟨#[]⟩ : ByteArray), .int .i64 0, .slice none 0 0]) (t := 37) ?hr ?_; (case hd => rfl); (case hg => rfl); (case hr => first | (go_simp; done) | (go_simp; rfl)); intro gb123 hg w18 hbox hb; have n0_ := Aside0.mk (Kd.R_below (by (with_reducible repeat (first | apply Kd.R_alloc | apply Kd.R_drewN | apply Kd.R_drew)); exact HO_3.out) hb); have n1_ := Aside0.mk (Kd.R_below (by (with_reducible repeat (first | apply Kd.R_alloc | apply Kd.R_drewN | apply Kd.R_drew)); exact HO_4.out) hb); have n2_ := Aside0.mk (below_step (by repeat (first | (with_reducible first | exact HB.out | apply below_alloc | apply pw_below_drewN | apply below_drew1) | exact HB.out)) hb); have n3_ := Aside0.mk (hbox); have n4_ := Aside0.mk ((by rw [hg]; exact (below_size (by repeat (first | (with_reducible first | exact HB.out | apply below_alloc | apply pw_below_drewN | apply below_drew1) | exact HB.out))) : w.heap.size ≤ gb123)); have n5_ := Aside0.mk ((by rw [hg]; exact (below_size (by repeat (first | (with_reducible first | exact HB.out | apply below_alloc | apply pw_below_drewN | apply below_drew1) | exact HB.out))) : w.heap.size ≤ gb123)); clear HO_3; clear HO_4; clear HB; have HO_3 := n0_; have HO_4 := n1_; have HB := n2_; have BK123 := n3_; have GW123 := n4_; have GE123 := n5_; clear n0_ n1_ n2_ n3_ n4_ n5_; clear hb hbox hg; have hcz19_0 : w18.cell? ⟨gb123, 0, none⟩ = some (.int .u8 0) := (blk_cell BK123.out 0).trans rfl; have hcz19_1 : w18.cell? ⟨gb123, 1, none⟩ = some (.string (⟨#[]⟩ : ByteArray)) := (blk_cell BK123.out 1).trans rfl; have hcz19_2 : w18.cell? ⟨gb123, 2, none⟩ = some (.slice none 0 0) := (blk_cell BK123.out 2).trans rfl; have hcz19_3 : w18.cell? ⟨gb123, 3, none⟩ = some (.string (⟨#[]⟩ : ByteArray)) := (blk_cell BK123.out 3).trans rfl; have hcz19_4 : w18.cell? ⟨gb123, 4, none⟩ = some (.int .i64 0) := (blk_cell BK123.out 4).trans rfl; have hcz19_5 : w18.cell? ⟨gb123, 5, none⟩ = some (.slice none 0 0) := (blk_cell BK123.out 5).trans rfl; have hfz19_0 := blk_frozen BK123.out 0; have hfz19_1 := blk_frozen BK123.out 1; have hfz19_2 := blk_frozen BK123.out 2; have hfz19_3 := blk_frozen BK123.out 3; have hfz19_4 := blk_frozen BK123.out 4; have hfz19_5 := blk_frozen BK123.out 5)); go_upto_if 43 with (first | ((with_reducible refine gate_dst (N := 6) rfl ?_); (try (refine gate_guard (by rfl) ?_; dsimp only)); refine box_event ?hg (N := 6) ?hd (cs := #[.int .u8 0, .string (⟨#[]⟩ : ByteArray), .slice none 0 0, .string (⟨#[]⟩ : ByteArray), .int .i64 0, .slice none 0 0]) (t := 37) ?hr ?_; (case hd => rfl); (case hg => rfl); (case hr => first | (go_simp; done) | (go_simp; rfl)); intro gb123 hg w18 hbox hb; have n0_ := Aside0.mk (Kd.R_below (by (with_reducible repeat (first | apply Kd.R_alloc | apply Kd.R_drewN | apply Kd.R_drew)); exact HO_3.out) hb); have n1_ := Aside0.mk (Kd.R_below (by (with_reducible repeat (first | apply Kd.R_alloc | apply Kd.R_drewN | apply Kd.R_drew)); exact HO_4.out) hb); have n2_ := Aside0.mk (below_step (by repeat (first | (with_reducible first | exact HB.out | apply below_alloc | apply pw_below_drewN | apply below_drew1) | exact HB.out)) hb); have n3_ := Aside0.mk (hbox); have n4_ := Aside0.mk ((by rw [hg]; exact (below_size (by repeat (first | (with_reducible first | exact HB.out | apply below_alloc | apply pw_below_drewN | apply below_drew1) | exact HB.out))) : w.heap.size ≤ gb123)); have n5_ := Aside0.mk ((by rw [hg]; exact (below_size (by repeat (first | (with_reducible first | exact HB.out | apply below_alloc | apply pw_below_drewN | apply below_drew1) | exact HB.out))) : w.heap.size ≤ gb123)); clear HO_3; clear HO_4; clear HB; have HO_3 := n0_; have HO_4 := n1_; have HB := n2_; have BK123 := n3_; have GW123 := n4_; have GE123 := n5_; clear n0_ n1_ n2_ n3_ n4_ n5_; clear hb hbox hg; have hcz19_0 : w18.cell? ⟨gb123, 0, none⟩ = some (.int .u8 0) := (blk_cell BK123.out 0).trans rfl; have hcz19_1 : w18.cell? ⟨gb123, 1, none⟩ = some (.string (⟨#[]⟩ : ByteArray)) := (blk_cell BK123.out 1).trans rfl; have hcz19_2 : w18.cell? ⟨gb123, 2, none⟩ = some (.slice none 0 0) := (blk_cell BK123.out 2).trans rfl; have hcz19_3 : w18.cell? ⟨gb123, 3, none⟩ = some (.string (⟨#[]⟩ : ByteArray)) := (blk_cell BK123.out 3).trans rfl; have hcz19_4 : w18.cell? ⟨gb123, 4, none⟩ = some (.int .i64 0) := (blk_cell BK123.out 4).trans rfl; have hcz19_5 : w18.cell? ⟨gb123, 5, none⟩ = some (.slice none 0 0) := (blk_cell BK123.out 5).trans rfl; have hfz19_0 := blk_frozen BK123.out 0; have hfz19_1 := blk_frozen BK123.out 1; have hfz19_2 := blk_frozen BK123.out 2; have hfz19_3 := blk_frozen BK123.out 3; have hfz19_4 := blk_frozen BK123.out 4; have hfz19_5 := blk_frozen BK123.out 5)))
           (try simp only [Act.put, List.setIfInBounds_toArray, List.set_cons_zero, List.set_cons_succ])
           go_cut [3] from 43 to 43 (fun v3 wc => ∃ (kq : Nat) (x3_16 : List Int) (x4_16 : List Int), Aside0 (tree_Right.j3 kq l0 x3_16 x4_16 x37_2 l0 (l0.length : Int) x37_2 = some r) ∧ Aside0 (kq ≤ k2) ∧ Aside0 (Kd.R (Kd.int .i64) 3 wc w.heap.size (fun k_ => some k_ ≠ (v120 : Value).ownBlock) v3 x3_16) ∧ Aside0 (Kd.R (Kd.int .i64) 3 wc w.heap.size (fun k_ => some k_ ≠ (v3 : Value).ownBlock) v120 x4_16) ∧ Aside0 (Below w.heap.size w wc))
           case first =>
            have H := HC17.out
            clear HC17
            by_cases c20 : x37_2 > 0
            ·rw [if_pos c20] at H
             have c20b0 : decide (0 < x37_2) = true := decide_eq_true c20
             clear c20
             (first | rw [c20b0] | (simp only [i64_w, i32_w]; rw [c20b0]) | skip)
             have H' := Aside0.mk H
             clear H
             go_wp2
             repeat (go_quiet (fail); try go_wp2)
             go_loopg [3] k2 (fun kq v3 w' => ∃ (x3_3 : List Int), Aside0 (tree_Right.l1 kq l0 x3_3 x4_2 x37_2 l0 (l0.length : Int) x37_2 ((rd_T37 l0 x37_2).f0) ((rd_T37 l0 x37_2).f1) ((rd_T37 l0 x37_2).f2) ((rd_T37 l0 x37_2).f3) ((rd_T37 l0 x37_2).f4) ((rd_T37 l0 x37_2).f5) = some r) ∧ Aside0 (kq ≤ k2) ∧ Aside0 (Kd.R (Kd.int .i64) 3 w' w.heap.size (fun k_ => some k_ ≠ (v120 : Value).ownBlock) v3 x3_3) ∧ Aside0 (Kd.R (Kd.int .i64) 3 w' w.heap.size (fun k_ => some k_ ≠ (v3 : Value).ownBlock) v120 x4_2) ∧ Aside0 (w'.heap[gb123]? = some (.cells #[.int .u8 ((rd_T37 l0 x37_2).f0), .string ((rd_T37 l0 x37_2).f1), (.slice A122_2 ((rd_T37 l0 x37_2).f2).length c122_2), .string ((rd_T37 l0 x37_2).f3), .int .i64 ((rd_T37 l0 x37_2).f4), (.slice A122_5 ((rd_T37 l0 x37_2).f5).length c122_5)] 37 (0, 0))) ∧ Aside0 (Below w.heap.size w w'))
             case atStart => exact ⟨(x3_2), H', ⟨Nat.le_refl _⟩, ⟨by (with_reducible repeat (first | apply Kd.R_alloc | apply Kd.R_drewN | apply Kd.R_drew)); exact Kd.R_mono (Kd.R_far (p := ⟨gb123, 5, none⟩) (Kd.R_far (p := ⟨gb123, 4, none⟩) (Kd.R_far (p := ⟨gb123, 3, none⟩) (Kd.R_far (p := ⟨gb123, 2, none⟩) (Kd.R_far (p := ⟨gb123, 1, none⟩) (Kd.R_far (p := ⟨gb123, 0, none⟩) (Kd.R_types HO_3.out BK123.out (by decide)) (fun _ hk => hk.2) (.int .u8 ((rd_T37 l0 x37_2).f0))) (fun _ hk => hk.2) (.string ((rd_T37 l0 x37_2).f1))) (fun _ hk => hk.2) (.slice A122_2 ((rd_T37 l0 x37_2).f2).length c122_2)) (fun _ hk => hk.2) (.string ((rd_T37 l0 x37_2).f3))) (fun _ hk => hk.2) (.int .i64 ((rd_T37 l0 x37_2).f4))) (fun _ hk => hk.2) (.slice A122_5 ((rd_T37 l0 x37_2).f5).length c122_5)) (fun _ hk => hk.1)⟩, ⟨by (with_reducible repeat (first | apply Kd.R_alloc | apply Kd.R_drewN | apply Kd.R_drew)); exact Kd.R_mono (Kd.R_far (p := ⟨gb123, 5, none⟩) (Kd.R_far (p := ⟨gb123, 4, none⟩) (Kd.R_far (p := ⟨gb123, 3, none⟩) (Kd.R_far (p := ⟨gb123, 2, none⟩) (Kd.R_far (p := ⟨gb123, 1, none⟩) (Kd.R_far (p := ⟨gb123, 0, none⟩) (Kd.R_types HO_4.out BK123.out (by decide)) (fun _ hk => hk.2) (.int .u8 ((rd_T37 l0 x37_2).f0))) (fun _ hk => hk.2) (.string ((rd_T37 l0 x37_2).f1))) (fun _ hk => hk.2) (.slice A122_2 ((rd_T37 l0 x37_2).f2).length c122_2)) (fun _ hk => hk.2) (.string ((rd_T37 l0 x37_2).f3))) (fun _ hk => hk.2) (.int .i64 ((rd_T37 l0 x37_2).f4))) (fun _ hk => hk.2) (.slice A122_5 ((rd_T37 l0 x37_2).f5).length c122_5)) (fun _ hk => hk.1)⟩, ⟨by (with_reducible repeat (first | refine blk_drewN ?_ _ | refine blk_drew ?_ | refine blk_alloc ?_ _)); refine blk_put (cs := #[.int .u8 ((rd_T37 l0 x37_2).f0), .string ((rd_T37 l0 x37_2).f1), .slice A122_2 ((rd_T37 l0 x37_2).f2).length c122_2, .string ((rd_T37 l0 x37_2).f3), .int .i64 ((rd_T37 l0 x37_2).f4), .slice none 0 0]) ?_ 5 _ rfl; (with_reducible repeat (first | refine blk_drewN ?_ _ | refine blk_drew ?_ | refine blk_alloc ?_ _)); refine blk_put (cs := #[.int .u8 ((rd_T37 l0 x37_2).f0), .string ((rd_T37 l0 x37_2).f1), .slice A122_2 ((rd_T37 l0 x37_2).f2).length c122_2, .string ((rd_T37 l0 x37_2).f3), .int .i64 0, .slice none 0 0]) ?_ 4 _ rfl; (with_reducible repeat (first | refine blk_drewN ?_ _ | refine blk_drew ?_ | refine blk_alloc ?_ _)); refine blk_put (cs := #[.int .u8 ((rd_T37 l0 x37_2).f0), .string ((rd_T37 l0 x37_2).f1), .slice A122_2 ((rd_T37 l0 x37_2).f2).length c122_2, .string (⟨#[]⟩ : ByteArray), .int .i64 0, .slice none 0 0]) ?_ 3 _ rfl; (with_reducible repeat (first | refine blk_drewN ?_ _ | refine blk_drew ?_ | refine blk_alloc ?_ _)); refine blk_put (cs := #[.int .u8 ((rd_T37 l0 x37_2).f0), .string ((rd_T37 l0 x37_2).f1), .slice none 0 0, .string (⟨#[]⟩ : ByteArray), .int .i64 0, .slice none 0 0]) ?_ 2 _ rfl; (with_reducible repeat (first | refine blk_drewN ?_ _ | refine blk_drew ?_ | refine blk_alloc ?_ _)); refine blk_put (cs := #[.int .u8 ((rd_T37 l0 x37_2).f0), .string (⟨#[]⟩ : ByteArray), .slice none 0 0, .string (⟨#[]⟩ : ByteArray), .int .i64 0, .slice none 0 0]) ?_ 1 _ rfl; (with_reducible repeat (first | refine blk_drewN ?_ _ | refine blk_drew ?_ | refine blk_alloc ?_ _)); refine blk_put (cs := #[.int .u8 0, .string (⟨#[]⟩ : ByteArray), .slice none 0 0, .string (⟨#[]⟩ : ByteArray), .int .i64 0, .slice none 0 0]) ?_ 0 _ rfl; (with_reducible repeat (first | refine blk_drewN ?_ _ | refine blk_drew ?_ | refine blk_alloc ?_ _)); exact BK123.out⟩, ⟨by repeat (first | (with_reducible first | exact HB.out | apply below_alloc | apply pw_below_drewN | apply below_drew1 | refine below_set ?_ GE123.out) | exact HB.out)⟩⟩
             case round =>
              clear H'
              try clear c1
              try clear p1
              try clear q1
              try clear hx1
              try clear qi1
              try clear c2
              try clear p2
              try clear c3
              try clear c3b0
              try clear c3b1
              try clear c3b2
              try clear c4
              try clear c4b0
              try clear c4b1
              try clear c5
              try clear c5b0
              try clear c5b1
              try clear c6
              try clear c6b0
              try clear c6b1
              try clear c7
              try clear c8
              try clear c8b0
              try clear c8b1
              try clear c9
              try clear c9b0
              try clear c9b1
              try clear c11
              try clear p11
              try clear q11
              try clear hx11
              try clear qi11
              try clear c12
              try clear p12
              try clear q12
              try clear hx12
              try clear c14
              try clear c14b0
              try clear c15
              try clear c15b0
              try clear c16
              try clear c16b0
              try clear c20
              try clear c20b0
              try clear hcz19_0
              try clear hcz19_1
              try clear hcz19_2
              try clear hcz19_3
              try clear hcz19_4
              try clear hcz19_5
              try clear hfz19_0
              try clear hfz19_1
              try clear hfz19_2
              try clear hfz19_3
              try clear hfz19_4
              try clear hfz19_5
              try clear hx114_0
              try clear hx114_1
              try clear hx114_2
              try clear hx114_3
              try clear hx114_4
              try clear hx114_5
              try clear hx115_0
              try clear hx115_1
              try clear hx115_2
              try clear hx115_3
              try clear hx115_4
              try clear hx115_5
              try clear hx122_0
              try clear hx122_1
              try clear hx122_2
              try clear hx122_3
              try clear hx122_4
              try clear hx122_5
              try clear p1
              try clear p11
              try clear p114
              try clear p115
              try clear p122
              try clear p2
              try clear q1
              try clear q11
              try clear q114
              try clear q115
              try clear q122
              obtain ⟨x3_3, HA, HK3, HO_3, HO_4, BK123, HB⟩ := hrel
              cases gk with
              | zero => exact absurd HA.out (by simp [tree_Right.l1])
              | succ k3 =>
               have H := HA.out
               clear HA
               simp only [tree_Right.l1] at H
               by_cases c21 : (x3_3.length : Int) > 0
               ·rw [if_pos c21] at H
                have c21b0 : decide (0 < (x3_3.length : Int)) = true := decide_eq_true c21
                have c21b1 : decide (0 < x3_3.length) = true := decide_eq_true (by omega)
                clear c21
                obtain ⟨ji22, hji22⟩ : ∃ j_ : Int, (wrap64 ((x3_3.length : Int) - 1)) = j_ := ⟨_, rfl⟩
                replace H : (if 0 ≤ (ji22) then (if (ji22) < (x3_3.length : Int) then (if (rd x3_3 (ji22)) = ((rd_T37 l0 x37_2).f4) then (if (x3_3.length : Int) = 0 then (some 53) else (if 0 ≤ ((rd_T37 l0 x37_2).f4) then (if ((rd_T37 l0 x37_2).f4) < (x4_2.length : Int) then (if ((rd_T37 l0 x37_2).f4) < (l0.length : Int) then (if (rd x4_2 ((rd_T37 l0 x37_2).f4)) ≥ (((rd_T37 l0 ((rd_T37 l0 x37_2).f4)).f5).length : Int) then (some 53) else (if 0 ≤ (rd x4_2 ((rd_T37 l0 x37_2).f4)) then (if (rd x4_2 ((rd_T37 l0 x37_2).f4)) < (((rd_T37 l0 ((rd_T37 l0 x37_2).f4)).f5).length : Int) then (if (rd ((rd_T37 l0 ((rd_T37 l0 x37_2).f4)).f5) (rd x4_2 ((rd_T37 l0 x37_2).f4))) = x37_2 then (tree_Right.j3 k3 l0 x3_3 (x4_2.set (((rd_T37 l0 x37_2).f4) : Int).toNat (wrap64 ((rd x4_2 ((rd_T37 l0 x37_2).f4)) + 1))) x37_2 l0 (l0.length : Int) x37_2) else (some 53)) else (none)) else (none))) else (none)) else (none)) else (none))) else (if (ji22) ≤ (x3_3.length : Int) then (tree_Right.l1 k3 l0 (x3_3.take ((ji22) : Int).toNat) x4_2 x37_2 l0 (l0.length : Int) x37_2 ((rd_T37 l0 x37_2).f0) ((rd_T37 l0 x37_2).f1) ((rd_T37 l0 x37_2).f2) ((rd_T37 l0 x37_2).f3) ((rd_T37 l0 x37_2).f4) ((rd_T37 l0 x37_2).f5)) else (none))) else (none)) else (none)) = some r := by first | (rw [hji22] at H; exact H) | (simp only [hji22] at H ⊢; exact H)
                have hji22w : (IntKind.i64.wrap ((x3_3.length : Int) - 1)) = ji22 := (i64_w _).trans hji22
                by_cases c23 : 0 ≤ (ji22)
                ·rw [if_pos c23] at H
                 have c23b0 : decide (0 ≤ (ji22)) = true := decide_eq_true c23
                 clear c23
                 by_cases c24 : (ji22) < (x3_3.length : Int)
                 ·rw [if_pos c24] at H
                  have c24b0 : decide ((ji22) < (x3_3.length : Int)) = true := decide_eq_true c24
                  clear c24
                  by_cases c25 : (rd x3_3 (ji22)) = ((rd_T37 l0 x37_2).f4)
                  ·rw [if_pos c25] at H
                   have c25b0 : ((rd x3_3 (ji22)) == ((rd_T37 l0 x37_2).f4)) = true := beq_iff_eq.mpr c25
                   have c25b1 : ((rd x3_3 (ji22)) != ((rd_T37 l0 x37_2).f4)) = false := bne_eq_false_iff_eq.mpr c25
                   clear c25
                   by_cases c26 : (x3_3.length : Int) = 0
                   ·rw [if_pos c26] at H
                    have c26b0 : ((x3_3.length : Int) == 0) = true := beq_iff_eq.mpr c26
                    have c26b1 : ((x3_3.length : Int) != 0) = false := bne_eq_false_iff_eq.mpr c26
                    clear c26
                    obtain rfl := Option.some.inj H
                    obtain ⟨Ao27, co27, eo27⟩ := Kd.R_slice HO_3.out
                    subst eo27
                    have p124 : 0 ≤ ((ji22) : Int) := of_decide_eq_true (by first | (with_reducible assumption) | assumption)
                    have q124 : (ji22) < (x3_3.length : Int) := of_decide_eq_true (by first | (with_reducible assumption) | assumption)
                    obtain ⟨ad124, e124, hx124_0⟩ := Kd.at_int (Kd.R_reads' HO_3.out).2.2 (ji22) p124 q124
                    cases e124
                    replace p124 := eq_true p124
                    replace q124 := eq_true q124
                    have hcz28_0 : wr.cell? ⟨gb123, 0, none⟩ = some (.int .u8 ((rd_T37 l0 x37_2).f0)) := (blk_cell BK123.out 0).trans rfl
                    have hcz28_1 : wr.cell? ⟨gb123, 1, none⟩ = some (.string ((rd_T37 l0 x37_2).f1)) := (blk_cell BK123.out 1).trans rfl
                    have hcz28_2 : wr.cell? ⟨gb123, 2, none⟩ = some (.slice A122_2 ((rd_T37 l0 x37_2).f2).length c122_2) := (blk_cell BK123.out 2).trans rfl
                    have hcz28_3 : wr.cell? ⟨gb123, 3, none⟩ = some (.string ((rd_T37 l0 x37_2).f3)) := (blk_cell BK123.out 3).trans rfl
                    have hcz28_4 : wr.cell? ⟨gb123, 4, none⟩ = some (.int .i64 ((rd_T37 l0 x37_2).f4)) := (blk_cell BK123.out 4).trans rfl
                    have hcz28_5 : wr.cell? ⟨gb123, 5, none⟩ = some (.slice A122_5 ((rd_T37 l0 x37_2).f5).length c122_5) := (blk_cell BK123.out 5).trans rfl
                    have hfz28_0 := blk_frozen BK123.out 0
                    have hfz28_1 := blk_frozen BK123.out 1
                    have hfz28_2 := blk_frozen BK123.out 2
                    have hfz28_3 := blk_frozen BK123.out 3
                    have hfz28_4 := blk_frozen BK123.out 4
                    have hfz28_5 := blk_frozen BK123.out 5
                    go_wp2
                    repeat (go_quiet (fail); try go_wp2)
                    go_ret
                    exact ⟨by first | rfl | (simp [errW_none, errW_some] <;> rfl) | (simp only [← hji22]; first | rfl | (simp [errW_none, errW_some] <;> rfl)) | (simp [*, errW_none, errW_some] <;> rfl), by repeat (first | (with_reducible first | exact HB.out | apply below_alloc | apply pw_below_drewN | apply below_drew1 | refine below_set ?_ GE123.out) | exact HB.out)⟩
                   ·rw [if_neg c26] at H
                    have c26b0 : ((x3_3.length : Int) == 0) = false := beq_eq_false_iff_ne.mpr c26
                    have c26b1 : ((x3_3.length : Int) != 0) = true := bne_iff_ne.mpr c26
                    have c26b2 : ¬ (x3_3 = []) := fun h_ => c26 (by rw [h_]; rfl)
                    by_cases c29 : 0 ≤ ((rd_T37 l0 x37_2).f4)
                    ·rw [if_pos c29] at H
                     have c29b0 : decide (0 ≤ ((rd_T37 l0 x37_2).f4)) = true := decide_eq_true c29
                     clear c29
                     by_cases c30 : ((rd_T37 l0 x37_2).f4) < (x4_2.length : Int)
                     ·rw [if_pos c30] at H
                      have c30b0 : decide (((rd_T37 l0 x37_2).f4) < (x4_2.length : Int)) = true := decide_eq_true c30
                      clear c30
                      by_cases c31 : ((rd_T37 l0 x37_2).f4) < (l0.length : Int)
                      ·rw [if_pos c31] at H
                       have c31b0 : decide (((rd_T37 l0 x37_2).f4) < (l0.length : Int)) = true := decide_eq_true c31
                       clear c31
                       by_cases c32 : (rd x4_2 ((rd_T37 l0 x37_2).f4)) ≥ (((rd_T37 l0 ((rd_T37 l0 x37_2).f4)).f5).length : Int)
                       ·rw [if_pos c32] at H
                        have c32b0 : decide ((((rd_T37 l0 ((rd_T37 l0 x37_2).f4)).f5).length : Int) ≤ (rd x4_2 ((rd_T37 l0 x37_2).f4))) = true := decide_eq_true c32
                        clear c32
                        obtain rfl := Option.some.inj H
                        obtain ⟨Ao33, co33, eo33⟩ := Kd.R_slice HO_3.out
                        subst eo33
                        have p124 : 0 ≤ ((ji22) : Int) := of_decide_eq_true (by first | (with_reducible assumption) | assumption)
                        have q124 : (ji22) < (x3_3.length : Int) := of_decide_eq_true (by first | (with_reducible assumption) | assumption)
                        obtain ⟨ad124, e124, hx124_0⟩ := Kd.at_int (Kd.R_reads' HO_3.out).2.2 (ji22) p124 q124
                        cases e124
                        replace p124 := eq_true p124
                        replace q124 := eq_true q124
                        have hcz34_0 : wr.cell? ⟨gb123, 0, none⟩ = some (.int .u8 ((rd_T37 l0 x37_2).f0)) := (blk_cell BK123.out 0).trans rfl
                        have hcz34_1 : wr.cell? ⟨gb123, 1, none⟩ = some (.string ((rd_T37 l0 x37_2).f1)) := (blk_cell BK123.out 1).trans rfl
                        have hcz34_2 : wr.cell? ⟨gb123, 2, none⟩ = some (.slice A122_2 ((rd_T37 l0 x37_2).f2).length c122_2) := (blk_cell BK123.out 2).trans rfl
                        have hcz34_3 : wr.cell? ⟨gb123, 3, none⟩ = some (.string ((rd_T37 l0 x37_2).f3)) := (blk_cell BK123.out 3).trans rfl
                        have hcz34_4 : wr.cell? ⟨gb123, 4, none⟩ = some (.int .i64 ((rd_T37 l0 x37_2).f4)) := (blk_cell BK123.out 4).trans rfl
                        have hcz34_5 : wr.cell? ⟨gb123, 5, none⟩ = some (.slice A122_5 ((rd_T37 l0 x37_2).f5).length c122_5) := (blk_cell BK123.out 5).trans rfl
                        have hfz34_0 := blk_frozen BK123.out 0
                        have hfz34_1 := blk_frozen BK123.out 1
                        have hfz34_2 := blk_frozen BK123.out 2
                        have hfz34_3 := blk_frozen BK123.out 3
                        have hfz34_4 := blk_frozen BK123.out 4
                        have hfz34_5 := blk_frozen BK123.out 5
                        obtain ⟨Ao35, co35, eo35⟩ := Kd.R_slice HO_4.out
                        subst eo35
                        have p125 : 0 ≤ (((rd_T37 l0 x37_2).f4) : Int) := of_decide_eq_true (by first | (with_reducible assumption) | assumption)
                        have q125 : ((rd_T37 l0 x37_2).f4) < (x4_2.length : Int) := of_decide_eq_true (by first | (with_reducible assumption) | assumption)
                        obtain ⟨ad125, e125, hx125_0⟩ := Kd.at_int (Kd.R_reads' HO_4.out).2.2 ((rd_T37 l0 x37_2).f4) p125 q125
                        cases e125
                        replace p125 := eq_true p125
                        replace q125 := eq_true q125
                        have p126 : 0 ≤ (((rd_T37 l0 x37_2).f4) : Int) := of_decide_eq_true (by first | (with_reducible assumption) | assumption)
                        have q126 : ((rd_T37 l0 x37_2).f4) < (l0.length : Int) := of_decide_eq_true (by first | (with_reducible assumption) | assumption)
                        obtain ⟨ad126, A126_2, c126_2, A126_5, c126_5, e126, hx126_0, hx126_1, hx126_2, hx126_3, hx126_4, hx126_5, hl126_2, hi126_2, hl126_5, hi126_5⟩ := at_T37 HR0.out ((rd_T37 l0 x37_2).f4) p126 q126
                        obtain rfl : ad122 = ad126 := (by injection e126)
                        replace hx126_0 := (HB.out.cell (World.block_lt_of_cell? w _ hx126_0)).trans hx126_0
                        replace hx126_1 := (HB.out.cell (World.block_lt_of_cell? w _ hx126_1)).trans hx126_1
                        replace hx126_2 := (HB.out.cell (World.block_lt_of_cell? w _ hx126_2)).trans hx126_2
                        replace hx126_3 := (HB.out.cell (World.block_lt_of_cell? w _ hx126_3)).trans hx126_3
                        replace hx126_4 := (HB.out.cell (World.block_lt_of_cell? w _ hx126_4)).trans hx126_4
                        replace hx126_5 := (HB.out.cell (World.block_lt_of_cell? w _ hx126_5)).trans hx126_5
                        have HR126_2 := Aside0.mk hi126_2
                        have HC126_2 := Aside0.mk hl126_2
                        clear hi126_2 hl126_2
                        have HR126_5 := Aside0.mk hi126_5
                        have HC126_5 := Aside0.mk hl126_5
                        clear hi126_5 hl126_5
                        replace p126 := eq_true p126
                        replace q126 := eq_true q126
                        go_wp2
                        repeat (go_quiet (fail); try go_wp2)
                        go_ret
                        exact ⟨by first | rfl | (simp [errW_none, errW_some] <;> rfl) | (simp only [← hji22]; first | rfl | (simp [errW_none, errW_some] <;> rfl)) | (simp [*, errW_none, errW_some] <;> rfl), by repeat (first | (with_reducible first | exact HB.out | apply below_alloc | apply pw_below_drewN | apply below_drew1 | refine below_set ?_ GE123.out) | exact HB.out)⟩
                       ·rw [if_neg c32] at H
                        have c32b0 : decide ((((rd_T37 l0 ((rd_T37 l0 x37_2).f4)).f5).length : Int) ≤ (rd x4_2 ((rd_T37 l0 x37_2).f4))) = false := decide_eq_false c32
                        clear c32
                        by_cases c36 : 0 ≤ (rd x4_2 ((rd_T37 l0 x37_2).f4))
                        ·rw [if_pos c36] at H
                         have c36b0 : decide (0 ≤ (rd x4_2 ((rd_T37 l0 x37_2).f4))) = true := decide_eq_true c36
                         clear c36
                         by_cases c37 : (rd x4_2 ((rd_T37 l0 x37_2).f4)) < (((rd_T37 l0 ((rd_T37 l0 x37_2).f4)).f5).length : Int)
                         ·rw [if_pos c37] at H
                          have c37b0 : decide ((rd x4_2 ((rd_T37 l0 x37_2).f4)) < (((rd_T37 l0 ((rd_T37 l0 x37_2).f4)).f5).length : Int)) = true := decide_eq_true c37
                          clear c37
                          by_cases c38 : (rd ((rd_T37 l0 ((rd_T37 l0 x37_2).f4)).f5) (rd x4_2 ((rd_T37 l0 x37_2).f4))) = x37_2
                          ·rw [if_pos c38] at H
                           have c38b0 : ((rd ((rd_T37 l0 ((rd_T37 l0 x37_2).f4)).f5) (rd x4_2 ((rd_T37 l0 x37_2).f4))) == x37_2) = true := beq_iff_eq.mpr c38
                           have c38b1 : ((rd ((rd_T37 l0 ((rd_T37 l0 x37_2).f4)).f5) (rd x4_2 ((rd_T37 l0 x37_2).f4))) != x37_2) = false := bne_eq_false_iff_eq.mpr c38
                           clear c38
                           obtain ⟨y131, hy131⟩ : ∃ y_ : List Int, y_ = (x4_2.set (((rd_T37 l0 x37_2).f4) : Int).toNat (wrap64 ((rd x4_2 ((rd_T37 l0 x37_2).f4)) + 1))) := ⟨_, rfl⟩
                           replace H : (tree_Right.j3 k3 l0 x3_3 y131 x37_2 l0 (l0.length : Int) x37_2) = some r := by first | (rw [hy131]; with_reducible exact H) | (have H2_ := (Option.bind_some _ _).symm.trans H; rw [hy131]; with_reducible exact H2_) | (have H2_ := (Option.bind_some _ _).symm.trans H; with_reducible exact H2_) | with_reducible exact H | (rw [hy131]; exact H) | exact H
                           have Ny131 := Aside0.mk hy131
                           clear hy131
                           have H' := Aside0.mk H
                           clear H
                           obtain ⟨Ao40, co40, eo40⟩ := Kd.R_slice HO_3.out
                           subst eo40
                           have p124 : 0 ≤ ((ji22) : Int) := of_decide_eq_true (by first | (with_reducible assumption) | assumption)
                           have q124 : (ji22) < (x3_3.length : Int) := of_decide_eq_true (by first | (with_reducible assumption) | assumption)
                           obtain ⟨ad124, e124, hx124_0⟩ := Kd.at_int (Kd.R_reads' HO_3.out).2.2 (ji22) p124 q124
                           cases e124
                           replace p124 := eq_true p124
                           replace q124 := eq_true q124
                           have hcz41_0 : wr.cell? ⟨gb123, 0, none⟩ = some (.int .u8 ((rd_T37 l0 x37_2).f0)) := (blk_cell BK123.out 0).trans rfl
                           have hcz41_1 : wr.cell? ⟨gb123, 1, none⟩ = some (.string ((rd_T37 l0 x37_2).f1)) := (blk_cell BK123.out 1).trans rfl
                           have hcz41_2 : wr.cell? ⟨gb123, 2, none⟩ = some (.slice A122_2 ((rd_T37 l0 x37_2).f2).length c122_2) := (blk_cell BK123.out 2).trans rfl
                           have hcz41_3 : wr.cell? ⟨gb123, 3, none⟩ = some (.string ((rd_T37 l0 x37_2).f3)) := (blk_cell BK123.out 3).trans rfl
                           have hcz41_4 : wr.cell? ⟨gb123, 4, none⟩ = some (.int .i64 ((rd_T37 l0 x37_2).f4)) := (blk_cell BK123.out 4).trans rfl
                           have hcz41_5 : wr.cell? ⟨gb123, 5, none⟩ = some (.slice A122_5 ((rd_T37 l0 x37_2).f5).length c122_5) := (blk_cell BK123.out 5).trans rfl
                           have hfz41_0 := blk_frozen BK123.out 0
                           have hfz41_1 := blk_frozen BK123.out 1
                           have hfz41_2 := blk_frozen BK123.out 2
                           have hfz41_3 := blk_frozen BK123.out 3
                           have hfz41_4 := blk_frozen BK123.out 4
                           have hfz41_5 := blk_frozen BK123.out 5
                           obtain ⟨Ao42, co42, eo42⟩ := Kd.R_slice HO_4.out
                           subst eo42
                           have p125 : 0 ≤ (((rd_T37 l0 x37_2).f4) : Int) := of_decide_eq_true (by first | (with_reducible assumption) | assumption)
                           have q125 : ((rd_T37 l0 x37_2).f4) < (x4_2.length : Int) := of_decide_eq_true (by first | (with_reducible assumption) | assumption)
                           obtain ⟨ad125, e125, hx125_0⟩ := Kd.at_int (Kd.R_reads' HO_4.out).2.2 ((rd_T37 l0 x37_2).f4) p125 q125
                           cases e125
                           replace p125 := eq_true p125
                           replace q125 := eq_true q125
                           have p126 : 0 ≤ (((rd_T37 l0 x37_2).f4) : Int) := of_decide_eq_true (by first | (with_reducible assumption) | assumption)
                           have q126 : ((rd_T37 l0 x37_2).f4) < (l0.length : Int) := of_decide_eq_true (by first | (with_reducible assumption) | assumption)
                           obtain ⟨ad126, A126_2, c126_2, A126_5, c126_5, e126, hx126_0, hx126_1, hx126_2, hx126_3, hx126_4, hx126_5, hl126_2, hi126_2, hl126_5, hi126_5⟩ := at_T37 HR0.out ((rd_T37 l0 x37_2).f4) p126 q126
                           obtain rfl : ad122 = ad126 := (by injection e126)
                           replace hx126_0 := (HB.out.cell (World.block_lt_of_cell? w _ hx126_0)).trans hx126_0
                           replace hx126_1 := (HB.out.cell (World.block_lt_of_cell? w _ hx126_1)).trans hx126_1
                           replace hx126_2 := (HB.out.cell (World.block_lt_of_cell? w _ hx126_2)).trans hx126_2
                           replace hx126_3 := (HB.out.cell (World.block_lt_of_cell? w _ hx126_3)).trans hx126_3
                           replace hx126_4 := (HB.out.cell (World.block_lt_of_cell? w _ hx126_4)).trans hx126_4
                           replace hx126_5 := (HB.out.cell (World.block_lt_of_cell? w _ hx126_5)).trans hx126_5
                           have HR126_2 := Aside0.mk hi126_2
                           have HC126_2 := Aside0.mk hl126_2
                           clear hi126_2 hl126_2
                           have HR126_5 := Aside0.mk hi126_5
                           have HC126_5 := Aside0.mk hl126_5
                           clear hi126_5 hl126_5
                           replace p126 := eq_true p126
                           replace q126 := eq_true q126
                           have p127 : 0 ≤ (((rd_T37 l0 x37_2).f4) : Int) := of_decide_eq_true (by first | (with_reducible assumption) | assumption)
                           have q127 : ((rd_T37 l0 x37_2).f4) < (l0.length : Int) := of_decide_eq_true (by first | (with_reducible assumption) | assumption)
                           obtain ⟨ad127, A127_2, c127_2, A127_5, c127_5, e127, hx127_0, hx127_1, hx127_2, hx127_3, hx127_4, hx127_5, hl127_2, hi127_2, hl127_5, hi127_5⟩ := at_T37 HR0.out ((rd_T37 l0 x37_2).f4) p127 q127
                           obtain rfl : ad122 = ad127 := (by injection e127)
                           replace hx127_0 := (HB.out.cell (World.block_lt_of_cell? w _ hx127_0)).trans hx127_0
                           replace hx127_1 := (HB.out.cell (World.block_lt_of_cell? w _ hx127_1)).trans hx127_1
                           replace hx127_2 := (HB.out.cell (World.block_lt_of_cell? w _ hx127_2)).trans hx127_2
                           replace hx127_3 := (HB.out.cell (World.block_lt_of_cell? w _ hx127_3)).trans hx127_3
                           replace hx127_4 := (HB.out.cell (World.block_lt_of_cell? w _ hx127_4)).trans hx127_4
                           replace hx127_5 := (HB.out.cell (World.block_lt_of_cell? w _ hx127_5)).trans hx127_5
                           have HR127_2 := Aside0.mk hi127_2
                           have HC127_2 := Aside0.mk hl127_2
                           clear hi127_2 hl127_2
                           have HR127_5 := Aside0.mk hi127_5
                           have HC127_5 := Aside0.mk hl127_5
                           clear hi127_5 hl127_5
                           replace p127 := eq_true p127
                           replace q127 := eq_true q127
                           have ea_ := Option.some.inj (hx126_2.symm.trans hx127_2)
                           injection ea_ with ea_ en_ ec_
                           subst ea_
                           subst ec_
                           clear en_
                           have ea_ := Option.some.inj (hx126_5.symm.trans hx127_5)
                           injection ea_ with ea_ en_ ec_
                           subst ea_
                           subst ec_
                           clear en_
                           have p128 : 0 ≤ (((rd_T37 l0 x37_2).f4) : Int) := of_decide_eq_true (by first | (with_reducible assumption) | assumption)
                           have q128 : ((rd_T37 l0 x37_2).f4) < (x4_2.length : Int) := of_decide_eq_true (by first | (with_reducible assumption) | assumption)
                           obtain ⟨ad128, e128, hx128_0⟩ := Kd.at_int (Kd.R_reads' HO_4.out).2.2 ((rd_T37 l0 x37_2).f4) p128 q128
                           obtain rfl : ad125 = ad128 := (by injection e128)
                           replace p128 := eq_true p128
                           replace q128 := eq_true q128
                           have p129 : 0 ≤ ((rd x4_2 ((rd_T37 l0 x37_2).f4)) : Int) := of_decide_eq_true (by first | (with_reducible assumption) | assumption)
                           have q129 : (rd x4_2 ((rd_T37 l0 x37_2).f4)) < (((rd_T37 l0 ((rd_T37 l0 x37_2).f4)).f5).length : Int) := of_decide_eq_true (by first | (with_reducible assumption) | assumption)
                           obtain ⟨ad129, e129, hx129_0⟩ := Kd.at_int HR127_5.out (rd x4_2 ((rd_T37 l0 x37_2).f4)) p129 q129
                           cases e129
                           replace hx129_0 := (HB.out.cell (World.block_lt_of_cell? w _ hx129_0)).trans hx129_0
                           replace p129 := eq_true p129
                           replace q129 := eq_true q129
                           have p130 : 0 ≤ (((rd_T37 l0 x37_2).f4) : Int) := of_decide_eq_true (by first | (with_reducible assumption) | assumption)
                           have q130 : ((rd_T37 l0 x37_2).f4) < (x4_2.length : Int) := of_decide_eq_true (by first | (with_reducible assumption) | assumption)
                           obtain ⟨ad130, e130, hx130_0⟩ := Kd.at_int (Kd.R_reads' HO_4.out).2.2 ((rd_T37 l0 x37_2).f4) p130 q130
                           obtain rfl : ad125 = ad130 := (by injection e130)
                           replace p130 := eq_true p130
                           replace q130 := eq_true q130
                           have p39 : 0 ≤ (((rd_T37 l0 x37_2).f4) : Int) := of_decide_eq_true (by first | (with_reducible assumption) | assumption)
                           have q39 : (((rd_T37 l0 x37_2).f4) : Int) < ((x4_2.length : Int) : Int) := of_decide_eq_true (by first | (with_reducible assumption) | assumption)
                           obtain ⟨go39, co39, eo39, gb39, gl39, cl39, HG39⟩ := Kd.R_form HO_4.out (by omega)
                           (first | cases eo39 | (injection eo39 with ea_ en_ ec_; (first | subst ea_ | (injection ea_ with ea_; subst ea_)); subst ec_; clear en_))
                           have GB39 := Aside0.mk gb39
                           have GG39 := Aside0.mk HG39
                           clear gb39 gl39 HG39
                           (first | simp only [add_plain] at hx125_0 | skip)
                           (first | simp only [add_plain] at hx128_0 | skip)
                           (first | simp only [add_plain] at hx130_0 | skip)
                           obtain ⟨hx39_0, hf39_0⟩ := Kd.R_celln 0 HO_4.out (((rd_T37 l0 x37_2).f4) : Int) p39 q39
                           replace p39 := eq_true p39
                           replace q39 := eq_true q39
                           have HP43 := Kd.R_putg HO_4.out (((rd_T37 l0 x37_2).f4) : Int) (wrap64 ((rd x4_2 ((rd_T37 l0 x37_2).f4)) + 1))
                           go_wp2_with (first | ((with_reducible refine gate_store (t := 3) (p := 104) rfl ?_); (try (rw [drewN_self wr]; generalize hq_ : World.drewN wr _ = wr; have n0_ := Aside0.mk (Kd.R_at hq_ HO_3.out); have n1_ := Aside0.mk (Kd.R_at hq_ HO_4.out); have n2_ := Aside0.mk (blk_at hq_ BK123.out); have n3_ := Aside0.mk (below_at hq_ HB.out); clear hq_ HO_3 HO_4 BK123 HB; have HO_3 := n0_; have HO_4 := n1_; have BK123 := n2_; have HB := n3_; clear n0_ n1_ n2_ n3_; (try (have HP43 := Kd.R_putg HO_4.out (((rd_T37 l0 x37_2).f4) : Int) (wrap64 ((rd x4_2 ((rd_T37 l0 x37_2).f4)) + 1)))))); refine store_event (t := 3) (p := 104) (v := ?vo_w44) (w1 := (wr.setCell ⟨go39, (((rd_T37 l0 x37_2).f4) : Int).toNat, none⟩ (.int .i64 (wrap64 ((rd x4_2 ((rd_T37 l0 x37_2).f4)) + 1))))) ?hg ?ho ?hn ?hr ?_; (case ho => rfl); (case hg => rfl); (case hn => rfl); (case hr => first | (go_simp; done) | (go_simp; rfl)); intro w44 hw; have hg : wr.grownBy w44 (some go39) := (by rw [hw]; exact HP43.2); have hp_ : Kd.R (Kd.int .i64) 3 w44 w.heap.size (fun k_ => some k_ ≠ (.slice (some ad124) x3_3.length co40 : Value).ownBlock) (.slice (some ⟨go39, 0, none⟩) x4_2.length co42) y131 := (by rw [hw, Ny131.out]; exact HP43.1); clear HP43; have n0_ := Aside0.mk (Kd.R_after (v := (.slice (some ⟨go39, 0, none⟩) x4_2.length co42)) (v1 := (.slice (some ⟨go39, 0, none⟩) x4_2.length co42)) (ok := (fun _ => True)) (by (with_reducible repeat (first | apply Kd.R_alloc | apply Kd.R_drewN | apply Kd.R_drew)); exact Kd.R_mono HO_3.out (fun _ hk => ⟨trivial, hk⟩)) hg (.inl rfl)); have n1_ := Aside0.mk (hp_); have n2_ := Aside0.mk (blk_grown (g := gb123) (o := .cells #[.int .u8 ((rd_T37 l0 x37_2).f0), .string ((rd_T37 l0 x37_2).f1), .slice A122_2 ((rd_T37 l0 x37_2).f2).length c122_2, .string ((rd_T37 l0 x37_2).f3), .int .i64 ((rd_T37 l0 x37_2).f4), .slice A122_5 ((rd_T37 l0 x37_2).f5).length c122_5] 37 (0, 0)) (by (with_reducible repeat (first | refine blk_drewN ?_ _ | refine blk_drew ?_ | refine blk_alloc ?_ _)); exact BK123.out) hg (Kd.R_ne HO_4.out BK123.out (by decide))); have n3_ := Aside0.mk ((by rw [hw]; exact below_set (HB.out) GB39.out : Below w.heap.size w w44)); clear HO_3; clear HO_4; clear BK123; clear HB; have HO_3 := n0_; have HO_4 := n1_; have BK123 := n2_; have HB := n3_; clear n0_ n1_ n2_ n3_; clear hg hw hp_))
                           repeat (go_quiet (first | ((with_reducible refine gate_store (t := 3) (p := 104) rfl ?_); (try (rw [drewN_self wr]; generalize hq_ : World.drewN wr _ = wr; have n0_ := Aside0.mk (Kd.R_at hq_ HO_3.out); have n1_ := Aside0.mk (Kd.R_at hq_ HO_4.out); have n2_ := Aside0.mk (blk_at hq_ BK123.out); have n3_ := Aside0.mk (below_at hq_ HB.out); clear hq_ HO_3 HO_4 BK123 HB; have HO_3 := n0_; have HO_4 := n1_; have BK123 := n2_; have HB := n3_; clear n0_ n1_ n2_ n3_; (try (have HP43 := Kd.R_putg HO_4.out (((rd_T37 l0 x37_2).f4) : Int) (wrap64 ((rd x4_2 ((rd_T37 l0 x37_2).f4)) + 1)))))); refine store_event (t := 3) (p := 104) (v := ?vo_w44) (w1 := (wr.setCell ⟨go39, (((rd_T37 l0 x37_2).f4) : Int).toNat, none⟩ (.int .i64 (wrap64 ((rd x4_2 ((rd_T37 l0 x37_2).f4)) + 1))))) ?hg ?ho ?hn ?hr ?_; (case ho => rfl); (case hg => rfl); (case hn => rfl); (case hr => first | (go_simp; done) | (go_simp; rfl)); intro w44 hw; have hg : wr.grownBy w44 (some go39) := (by rw [hw]; exact HP43.2); have hp_ : Kd.R (Kd.int .i64) 3 w44 w.heap.size (fun k_ => some k_ ≠ (.slice (some ad124) x3_3.length co40 : Value).ownBlock) (.slice (some ⟨go39, 0, none⟩) x4_2.length co42) y131 := (by rw [hw, Ny131.out]; exact HP43.1); clear HP43; have n0_ := Aside0.mk (Kd.R_after (v := (.slice (some ⟨go39, 0, none⟩) x4_2.length co42)) (v1 := (.slice (some ⟨go39, 0, none⟩) x4_2.length co42)) (ok := (fun _ => True)) (by (with_reducible repeat (first | apply Kd.R_alloc | apply Kd.R_drewN | apply Kd.R_drew)); exact Kd.R_mono HO_3.out (fun _ hk => ⟨trivial, hk⟩)) hg (.inl rfl)); have n1_ := Aside0.mk (hp_); have n2_ := Aside0.mk (blk_grown (g := gb123) (o := .cells #[.int .u8 ((rd_T37 l0 x37_2).f0), .string ((rd_T37 l0 x37_2).f1), .slice A122_2 ((rd_T37 l0 x37_2).f2).length c122_2, .string ((rd_T37 l0 x37_2).f3), .int .i64 ((rd_T37 l0 x37_2).f4), .slice A122_5 ((rd_T37 l0 x37_2).f5).length c122_5] 37 (0, 0)) (by (with_reducible repeat (first | refine blk_drewN ?_ _ | refine blk_drew ?_ | refine blk_alloc ?_ _)); exact BK123.out) hg (Kd.R_ne HO_4.out BK123.out (by decide))); have n3_ := Aside0.mk ((by rw [hw]; exact below_set (HB.out) GB39.out : Below w.heap.size w w44)); clear HO_3; clear HO_4; clear BK123; clear HB; have HO_3 := n0_; have HO_4 := n1_; have BK123 := n2_; have HB := n3_; clear n0_ n1_ n2_ n3_; clear hg hw hp_)); try go_wp2_with (first | ((with_reducible refine gate_store (t := 3) (p := 104) rfl ?_); (try (rw [drewN_self wr]; generalize hq_ : World.drewN wr _ = wr; have n0_ := Aside0.mk (Kd.R_at hq_ HO_3.out); have n1_ := Aside0.mk (Kd.R_at hq_ HO_4.out); have n2_ := Aside0.mk (blk_at hq_ BK123.out); have n3_ := Aside0.mk (below_at hq_ HB.out); clear hq_ HO_3 HO_4 BK123 HB; have HO_3 := n0_; have HO_4 := n1_; have BK123 := n2_; have HB := n3_; clear n0_ n1_ n2_ n3_; (try (have HP43 := Kd.R_putg HO_4.out (((rd_T37 l0 x37_2).f4) : Int) (wrap64 ((rd x4_2 ((rd_T37 l0 x37_2).f4)) + 1)))))); refine store_event (t := 3) (p := 104) (v := ?vo_w44) (w1 := (wr.setCell ⟨go39, (((rd_T37 l0 x37_2).f4) : Int).toNat, none⟩ (.int .i64 (wrap64 ((rd x4_2 ((rd_T37 l0 x37_2).f4)) + 1))))) ?hg ?ho ?hn ?hr ?_; (case ho => rfl); (case hg => rfl); (case hn => rfl); (case hr => first | (go_simp; done) | (go_simp; rfl)); intro w44 hw; have hg : wr.grownBy w44 (some go39) := (by rw [hw]; exact HP43.2); have hp_ : Kd.R (Kd.int .i64) 3 w44 w.heap.size (fun k_ => some k_ ≠ (.slice (some ad124) x3_3.length co40 : Value).ownBlock) (.slice (some ⟨go39, 0, none⟩) x4_2.length co42) y131 := (by rw [hw, Ny131.out]; exact HP43.1); clear HP43; have n0_ := Aside0.mk (Kd.R_after (v := (.slice (some ⟨go39, 0, none⟩) x4_2.length co42)) (v1 := (.slice (some ⟨go39, 0, none⟩) x4_2.length co42)) (ok := (fun _ => True)) (by (with_reducible repeat (first | apply Kd.R_alloc | apply Kd.R_drewN | apply Kd.R_drew)); exact Kd.R_mono HO_3.out (fun _ hk => ⟨trivial, hk⟩)) hg (.inl rfl)); have n1_ := Aside0.mk (hp_); have n2_ := Aside0.mk (blk_grown (g := gb123) (o := .cells #[.int .u8 ((rd_T37 l0 x37_2).f0), .string ((rd_T37 l0 x37_2).f1), .slice A122_2 ((rd_T37 l0 x37_2).f2).length c122_2, .string ((rd_T37 l0 x37_2).f3), .int .i64 ((rd_T37 l0 x37_2).f4), .slice A122_5 ((rd_T37 l0 x37_2).f5).length c122_5] 37 (0, 0)) (by (with_reducible repeat (first | refine blk_drewN ?_ _ | refine blk_drew ?_ | refine blk_alloc ?_ _)); exact BK123.out) hg (Kd.R_ne HO_4.out BK123.out (by decide))); have n3_ := Aside0.mk ((by rw [hw]; exact below_set (HB.out) GB39.out : Below w.heap.size w w44)); clear HO_3; clear HO_4; clear BK123; clear HB; have HO_3 := n0_; have HO_4 := n1_; have BK123 := n2_; have HB := n3_; clear n0_ n1_ n2_ n3_; clear hg hw hp_)))
                           go_meet
                           case rel => exact ⟨_, (x3_3), (y131), H', ⟨by have := HJ1.out; have := HK2.out; have := HK3.out; first | omega | exact Nat.le_refl _⟩, ⟨by (with_reducible repeat (first | apply Kd.R_alloc | apply Kd.R_drewN | apply Kd.R_drew)); first | exact Kd.R_mono HO_3.out (fun _ hk => hk.2) | exact Kd.R_far (Kd.R_drewN HO_3.out _) (fun k hk e => hk (by rw [e]; rfl)) _⟩, ⟨by (with_reducible repeat (first | apply Kd.R_alloc | apply Kd.R_drewN | apply Kd.R_drew)); first | exact HO_4.out | (rw [Ny131.out]; exact (Kd.R_putg (Kd.R_drewN HO_4.out _) _ _).1)⟩, ⟨by repeat (first | (with_reducible first | exact HB.out | apply below_alloc | apply pw_below_drewN | apply below_drew1 | refine below_set ?_ GB39.out | refine below_set ?_ GE123.out) | exact HB.out)⟩⟩
                          ·rw [if_neg c38] at H
                           have c38b0 : ((rd ((rd_T37 l0 ((rd_T37 l0 x37_2).f4)).f5) (rd x4_2 ((rd_T37 l0 x37_2).f4))) == x37_2) = false := beq_eq_false_iff_ne.mpr c38
                           have c38b1 : ((rd ((rd_T37 l0 ((rd_T37 l0 x37_2).f4)).f5) (rd x4_2 ((rd_T37 l0 x37_2).f4))) != x37_2) = true := bne_iff_ne.mpr c38
                           obtain rfl := Option.some.inj H
                           obtain ⟨Ao45, co45, eo45⟩ := Kd.R_slice HO_3.out
                           subst eo45
                           have p124 : 0 ≤ ((ji22) : Int) := of_decide_eq_true (by first | (with_reducible assumption) | assumption)
                           have q124 : (ji22) < (x3_3.length : Int) := of_decide_eq_true (by first | (with_reducible assumption) | assumption)
                           obtain ⟨ad124, e124, hx124_0⟩ := Kd.at_int (Kd.R_reads' HO_3.out).2.2 (ji22) p124 q124
                           cases e124
                           replace p124 := eq_true p124
                           replace q124 := eq_true q124
                           have hcz46_0 : wr.cell? ⟨gb123, 0, none⟩ = some (.int .u8 ((rd_T37 l0 x37_2).f0)) := (blk_cell BK123.out 0).trans rfl
                           have hcz46_1 : wr.cell? ⟨gb123, 1, none⟩ = some (.string ((rd_T37 l0 x37_2).f1)) := (blk_cell BK123.out 1).trans rfl
                           have hcz46_2 : wr.cell? ⟨gb123, 2, none⟩ = some (.slice A122_2 ((rd_T37 l0 x37_2).f2).length c122_2) := (blk_cell BK123.out 2).trans rfl
                           have hcz46_3 : wr.cell? ⟨gb123, 3, none⟩ = some (.string ((rd_T37 l0 x37_2).f3)) := (blk_cell BK123.out 3).trans rfl
                           have hcz46_4 : wr.cell? ⟨gb123, 4, none⟩ = some (.int .i64 ((rd_T37 l0 x37_2).f4)) := (blk_cell BK123.out 4).trans rfl
                           have hcz46_5 : wr.cell? ⟨gb123, 5, none⟩ = some (.slice A122_5 ((rd_T37 l0 x37_2).f5).length c122_5) := (blk_cell BK123.out 5).trans rfl
                           have hfz46_0 := blk_frozen BK123.out 0
                           have hfz46_1 := blk_frozen BK123.out 1
                           have hfz46_2 := blk_frozen BK123.out 2
                           have hfz46_3 := blk_frozen BK123.out 3
                           have hfz46_4 := blk_frozen BK123.out 4
                           have hfz46_5 := blk_frozen BK123.out 5
                           obtain ⟨Ao47, co47, eo47⟩ := Kd.R_slice HO_4.out
                           subst eo47
                           have p125 : 0 ≤ (((rd_T37 l0 x37_2).f4) : Int) := of_decide_eq_true (by first | (with_reducible assumption) | assumption)
                           have q125 : ((rd_T37 l0 x37_2).f4) < (x4_2.length : Int) := of_decide_eq_true (by first | (with_reducible assumption) | assumption)
                           obtain ⟨ad125, e125, hx125_0⟩ := Kd.at_int (Kd.R_reads' HO_4.out).2.2 ((rd_T37 l0 x37_2).f4) p125 q125
                           cases e125
                           replace p125 := eq_true p125
                           replace q125 := eq_true q125
                           have p126 : 0 ≤ (((rd_T37 l0 x37_2).f4) : Int) := of_decide_eq_true (by first | (with_reducible assumption) | assumption)
                           have q126 : ((rd_T37 l0 x37_2).f4) < (l0.length : Int) := of_decide_eq_true (by first | (with_reducible assumption) | assumption)
                           obtain ⟨ad126, A126_2, c126_2, A126_5, c126_5, e126, hx126_0, hx126_1, hx126_2, hx126_3, hx126_4, hx126_5, hl126_2, hi126_2, hl126_5, hi126_5⟩ := at_T37 HR0.out ((rd_T37 l0 x37_2).f4) p126 q126
                           obtain rfl : ad122 = ad126 := (by injection e126)
                           replace hx126_0 := (HB.out.cell (World.block_lt_of_cell? w _ hx126_0)).trans hx126_0
                           replace hx126_1 := (HB.out.cell (World.block_lt_of_cell? w _ hx126_1)).trans hx126_1
                           replace hx126_2 := (HB.out.cell (World.block_lt_of_cell? w _ hx126_2)).trans hx126_2
                           replace hx126_3 := (HB.out.cell (World.block_lt_of_cell? w _ hx126_3)).trans hx126_3
                           replace hx126_4 := (HB.out.cell (World.block_lt_of_cell? w _ hx126_4)).trans hx126_4
                           replace hx126_5 := (HB.out.cell (World.block_lt_of_cell? w _ hx126_5)).trans hx126_5
                           have HR126_2 := Aside0.mk hi126_2
                           have HC126_2 := Aside0.mk hl126_2
                           clear hi126_2 hl126_2
                           have HR126_5 := Aside0.mk hi126_5
                           have HC126_5 := Aside0.mk hl126_5
                           clear hi126_5 hl126_5
                           replace p126 := eq_true p126
                           replace q126 := eq_true q126
                           have p127 : 0 ≤ (((rd_T37 l0 x37_2).f4) : Int) := of_decide_eq_true (by first | (with_reducible assumption) | assumption)
                           have q127 : ((rd_T37 l0 x37_2).f4) < (l0.length : Int) := of_decide_eq_true (by first | (with_reducible assumption) | assumption)
                           obtain ⟨ad127, A127_2, c127_2, A127_5, c127_5, e127, hx127_0, hx127_1, hx127_2, hx127_3, hx127_4, hx127_5, hl127_2, hi127_2, hl127_5, hi127_5⟩ := at_T37 HR0.out ((rd_T37 l0 x37_2).f4) p127 q127
                           obtain rfl : ad122 = ad127 := (by injection e127)
                           replace hx127_0 := (HB.out.cell (World.block_lt_of_cell? w _ hx127_0)).trans hx127_0
                           replace hx127_1 := (HB.out.cell (World.block_lt_of_cell? w _ hx127_1)).trans hx127_1
                           replace hx127_2 := (HB.out.cell (World.block_lt_of_cell? w _ hx127_2)).trans hx127_2
                           replace hx127_3 := (HB.out.cell (World.block_lt_of_cell? w _ hx127_3)).trans hx127_3
                           replace hx127_4 := (HB.out.cell (World.block_lt_of_cell? w _ hx127_4)).trans hx127_4
                           replace hx127_5 := (HB.out.cell (World.block_lt_of_cell? w _ hx127_5)).trans hx127_5
                           have HR127_2 := Aside0.mk hi127_2
                           have HC127_2 := Aside0.mk hl127_2
                           clear hi127_2 hl127_2
                           have HR127_5 := Aside0.mk hi127_5
                           have HC127_5 := Aside0.mk hl127_5
                           clear hi127_5 hl127_5
                           replace p127 := eq_true p127
                           replace q127 := eq_true q127
                           have ea_ := Option.some.inj (hx126_2.symm.trans hx127_2)
                           injection ea_ with ea_ en_ ec_
                           subst ea_
                           subst ec_
                           clear en_
                           have ea_ := Option.some.inj (hx126_5.symm.trans hx127_5)
                           injection ea_ with ea_ en_ ec_
                           subst ea_
                           subst ec_
                           clear en_
                           have p128 : 0 ≤ (((rd_T37 l0 x37_2).f4) : Int) := of_decide_eq_true (by first | (with_reducible assumption) | assumption)
                           have q128 : ((rd_T37 l0 x37_2).f4) < (x4_2.length : Int) := of_decide_eq_true (by first | (with_reducible assumption) | assumption)
                           obtain ⟨ad128, e128, hx128_0⟩ := Kd.at_int (Kd.R_reads' HO_4.out).2.2 ((rd_T37 l0 x37_2).f4) p128 q128
                           obtain rfl : ad125 = ad128 := (by injection e128)
                           replace p128 := eq_true p128
                           replace q128 := eq_true q128
                           have p129 : 0 ≤ ((rd x4_2 ((rd_T37 l0 x37_2).f4)) : Int) := of_decide_eq_true (by first | (with_reducible assumption) | assumption)
                           have q129 : (rd x4_2 ((rd_T37 l0 x37_2).f4)) < (((rd_T37 l0 ((rd_T37 l0 x37_2).f4)).f5).length : Int) := of_decide_eq_true (by first | (with_reducible assumption) | assumption)
                           obtain ⟨ad129, e129, hx129_0⟩ := Kd.at_int HR127_5.out (rd x4_2 ((rd_T37 l0 x37_2).f4)) p129 q129
                           cases e129
                           replace hx129_0 := (HB.out.cell (World.block_lt_of_cell? w _ hx129_0)).trans hx129_0
                           replace p129 := eq_true p129
                           replace q129 := eq_true q129
                           go_wp2
                           repeat (go_quiet (fail); try go_wp2)
                           go_ret
                           exact ⟨by first | rfl | (simp [errW_none, errW_some] <;> rfl) | (simp only [← hji22]; first | rfl | (simp [errW_none, errW_some] <;> rfl)) | (simp [*, errW_none, errW_some] <;> rfl), by repeat (first | (with_reducible first | exact HB.out | apply below_alloc | apply pw_below_drewN | apply below_drew1 | refine below_set ?_ GE123.out) | exact HB.out)⟩
                         ·rw [if_neg c37] at H
                          exact absurd H (by simp)
                        ·rw [if_neg c36] at H
                         exact absurd H (by simp)
                      ·rw [if_neg c31] at H
                       exact absurd H (by simp)
                     ·rw [if_neg c30] at H
                      exact absurd H (by simp)
                    ·rw [if_neg c29] at H
                     exact absurd H (by simp)
                  ·rw [if_neg c25] at H
                   have c25b0 : ((rd x3_3 (ji22)) == ((rd_T37 l0 x37_2).f4)) = false := beq_eq_false_iff_ne.mpr c25
                   have c25b1 : ((rd x3_3 (ji22)) != ((rd_T37 l0 x37_2).f4)) = true := bne_iff_ne.mpr c25
                   by_cases c48 : (ji22) ≤ (x3_3.length : Int)
                   ·rw [if_pos c48] at H
                    have c48b0 := eq_true c48
                    have c48b1 : decide ((ji22) ≤ (x3_3.length : Int)) = true := decide_eq_true c48
                    clear c48
                    obtain ⟨y132, hy132⟩ : ∃ y_ : List Int, y_ = (x3_3.take ((ji22) : Int).toNat) := ⟨_, rfl⟩
                    replace H : (tree_Right.l1 k3 l0 y132 x4_2 x37_2 l0 (l0.length : Int) x37_2 ((rd_T37 l0 x37_2).f0) ((rd_T37 l0 x37_2).f1) ((rd_T37 l0 x37_2).f2) ((rd_T37 l0 x37_2).f3) ((rd_T37 l0 x37_2).f4) ((rd_T37 l0 x37_2).f5)) = some r := by first | (rw [hy132]; with_reducible exact H) | (have H2_ := (Option.bind_some _ _).symm.trans H; rw [hy132]; with_reducible exact H2_) | (have H2_ := (Option.bind_some _ _).symm.trans H; with_reducible exact H2_) | with_reducible exact H | (rw [hy132]; exact H) | exact H
                    have Ny132 := Aside0.mk hy132
                    clear hy132
                    have H' := Aside0.mk H
                    clear H
                    obtain ⟨Ao49, co49, eo49⟩ := Kd.R_slice HO_3.out
                    subst eo49
                    have p124 : 0 ≤ ((ji22) : Int) := of_decide_eq_true (by first | (with_reducible assumption) | assumption)
                    have q124 : (ji22) < (x3_3.length : Int) := of_decide_eq_true (by first | (with_reducible assumption) | assumption)
                    obtain ⟨ad124, e124, hx124_0⟩ := Kd.at_int (Kd.R_reads' HO_3.out).2.2 (ji22) p124 q124
                    cases e124
                    replace p124 := eq_true p124
                    replace q124 := eq_true q124
                    have hcz50_0 : wr.cell? ⟨gb123, 0, none⟩ = some (.int .u8 ((rd_T37 l0 x37_2).f0)) := (blk_cell BK123.out 0).trans rfl
                    have hcz50_1 : wr.cell? ⟨gb123, 1, none⟩ = some (.string ((rd_T37 l0 x37_2).f1)) := (blk_cell BK123.out 1).trans rfl
                    have hcz50_2 : wr.cell? ⟨gb123, 2, none⟩ = some (.slice A122_2 ((rd_T37 l0 x37_2).f2).length c122_2) := (blk_cell BK123.out 2).trans rfl
                    have hcz50_3 : wr.cell? ⟨gb123, 3, none⟩ = some (.string ((rd_T37 l0 x37_2).f3)) := (blk_cell BK123.out 3).trans rfl
                    have hcz50_4 : wr.cell? ⟨gb123, 4, none⟩ = some (.int .i64 ((rd_T37 l0 x37_2).f4)) := (blk_cell BK123.out 4).trans rfl
                    have hcz50_5 : wr.cell? ⟨gb123, 5, none⟩ = some (.slice A122_5 ((rd_T37 l0 x37_2).f5).length c122_5) := (blk_cell BK123.out 5).trans rfl
                    have hfz50_0 := blk_frozen BK123.out 0
                    have hfz50_1 := blk_frozen BK123.out 1
                    have hfz50_2 := blk_frozen BK123.out 2
                    have hfz50_3 := blk_frozen BK123.out 3
                    have hfz50_4 := blk_frozen BK123.out 4
                    have hfz50_5 := blk_frozen BK123.out 5
                    have q51 : ((ji22) : Int) ≤ ((x3_3.length : Int) : Int) := of_decide_eq_true (by first | (with_reducible assumption) | assumption)
                    obtain ⟨i051, hi051, _, hsz51, _⟩ := info_parts info3
                    have hcut51 := cut_to (P := Tryd.prog) 35 3 .i64 Tryd.underlying35 hi051 (some ad124) x3_3.length co49 (ji22) (of_decide_eq_true (by first | (with_reducible assumption) | assumption)) q51 (Kd.R_reads' HO_3.out).2.1
                    have hr51 := Kd.R_take (m := ((ji22) : Int).toNat) HO_3.out (by omega)
                    have hy51 : y132.length = ((ji22) : Int).toNat := (by rw [Ny132.out, List.length_take]; omega)
                    rw [← Ny132.out] at hr51
                    rw [← hy51] at hr51 hcut51
                    clear hy51 hi051 hsz51 HO_3
                    have HO134 := Aside0.mk hr51
                    clear hr51
                    replace q51 := eq_true q51
                    go_wp2
                    repeat (go_quiet (fail); try go_wp2)
                    go_roundg k3
                    case measure => have := HJ1.out; have := HK2.out; have := HK3.out; omega
                    case rel => exact ⟨(y132), H', ⟨by have := HJ1.out; have := HK2.out; have := HK3.out; omega⟩, ⟨by (with_reducible repeat (first | apply Kd.R_alloc | apply Kd.R_drewN | apply Kd.R_drew)); exact HO134.out⟩, ⟨by (with_reducible repeat (first | apply Kd.R_alloc | apply Kd.R_drewN | apply Kd.R_drew)); exact HO_4.out⟩, ⟨by (with_reducible repeat (first | refine blk_drewN ?_ _ | refine blk_drew ?_ | refine blk_alloc ?_ _)); exact BK123.out⟩, ⟨by repeat (first | (with_reducible first | exact HB.out | apply below_alloc | apply pw_below_drewN | apply below_drew1 | refine below_set ?_ GE123.out) | exact HB.out)⟩⟩
                   ·rw [if_neg c48] at H
                    exact absurd H (by simp)
                 ·rw [if_neg c24] at H
                  exact absurd H (by simp)
                ·rw [if_neg c23] at H
                 exact absurd H (by simp)
               ·rw [if_neg c21] at H
                have c21b0 : decide (0 < (x3_3.length : Int)) = false := decide_eq_false c21
                have c21b1 : decide (0 < x3_3.length) = false := decide_eq_false (by omega)
                clear c21
                by_cases c52 : (x3_3.length : Int) = 0
                ·rw [if_pos c52] at H
                 have c52b0 : ((x3_3.length : Int) == 0) = true := beq_iff_eq.mpr c52
                 have c52b1 : ((x3_3.length : Int) != 0) = false := bne_eq_false_iff_eq.mpr c52
                 clear c52
                 obtain rfl := Option.some.inj H
                 obtain ⟨Ao53, co53, eo53⟩ := Kd.R_slice HO_3.out
                 subst eo53
                 go_wp2
                 repeat (go_quiet (fail); try go_wp2)
                 go_ret
                 exact ⟨by first | rfl | (simp [errW_none, errW_some] <;> rfl) | (simp [*, errW_none, errW_some] <;> rfl), by repeat (first | (with_reducible first | exact HB.out | apply below_alloc | apply pw_below_drewN | apply below_drew1 | refine below_set ?_ GE123.out) | exact HB.out)⟩
                ·exact absurd (of_decide_eq_false c21b0) (by omega)
            ·rw [if_neg c20] at H
             have c20b0 : decide (0 < x37_2) = false := decide_eq_false c20
             clear c20
             (first | rw [c20b0] | (simp only [i64_w, i32_w]; rw [c20b0]) | skip)
             have H' := Aside0.mk H
             clear H
             go_wp2
             repeat (go_quiet (fail); try go_wp2)
             go_meet
             case rel => exact ⟨_, (x3_2), (x4_2), H', ⟨by have := HJ1.out; have := HK2.out; first | omega | exact Nat.le_refl _⟩, ⟨by (with_reducible repeat (first | apply Kd.R_alloc | apply Kd.R_drewN | apply Kd.R_drew)); exact Kd.R_mono (Kd.R_far (p := ⟨gb123, 5, none⟩) (Kd.R_far (p := ⟨gb123, 4, none⟩) (Kd.R_far (p := ⟨gb123, 3, none⟩) (Kd.R_far (p := ⟨gb123, 2, none⟩) (Kd.R_far (p := ⟨gb123, 1, none⟩) (Kd.R_far (p := ⟨gb123, 0, none⟩) (Kd.R_types HO_3.out BK123.out (by decide)) (fun _ hk => hk.2) (.int .u8 ((rd_T37 l0 x37_2).f0))) (fun _ hk => hk.2) (.string ((rd_T37 l0 x37_2).f1))) (fun _ hk => hk.2) (.slice A122_2 ((rd_T37 l0 x37_2).f2).length c122_2)) (fun _ hk => hk.2) (.string ((rd_T37 l0 x37_2).f3))) (fun _ hk => hk.2) (.int .i64 ((rd_T37 l0 x37_2).f4))) (fun _ hk => hk.2) (.slice A122_5 ((rd_T37 l0 x37_2).f5).length c122_5)) (fun _ hk => hk.1)⟩, ⟨by (with_reducible repeat (first | apply Kd.R_alloc | apply Kd.R_drewN | apply Kd.R_drew)); exact Kd.R_mono (Kd.R_far (p := ⟨gb123, 5, none⟩) (Kd.R_far (p := ⟨gb123, 4, none⟩) (Kd.R_far (p := ⟨gb123, 3, none⟩) (Kd.R_far (p := ⟨gb123, 2, none⟩) (Kd.R_far (p := ⟨gb123, 1, none⟩) (Kd.R_far (p := ⟨gb123, 0, none⟩) (Kd.R_types HO_4.out BK123.out (by decide)) (fun _ hk => hk.2) (.int .u8 ((rd_T37 l0 x37_2).f0))) (fun _ hk => hk.2) (.string ((rd_T37 l0 x37_2).f1))) (fun _ hk => hk.2) (.slice A122_2 ((rd_T37 l0 x37_2).f2).length c122_2)) (fun _ hk => hk.2) (.string ((rd_T37 l0 x37_2).f3))) (fun _ hk => hk.2) (.int .i64 ((rd_T37 l0 x37_2).f4))) (fun _ hk => hk.2) (.slice A122_5 ((rd_T37 l0 x37_2).f5).length c122_5)) (fun _ hk => hk.1)⟩, ⟨by repeat (first | (with_reducible first | exact HB.out | apply below_alloc | apply pw_below_drewN | apply below_drew1 | refine below_set ?_ GE123.out) | exact HB.out)⟩⟩
           case rest =>
            clear HC17
            try clear c1
            try clear p1
            try clear q1
            try clear hx1
            try clear c2
            try clear p2
            try clear c3
            try clear p3
            try clear q3
            try clear hx3
            try clear hf3
            try clear c4
            try clear c5
            try clear q5
            try clear c6
            try clear p6
            try clear q6
            try clear hx6
            try clear hf6
            try clear c12
            try clear p12
            try clear q12
            try clear hx12
            try clear c13
            try clear p13
            try clear q13
            try clear hx13
            try clear p14
            try clear q14
            try clear hx14
            try clear c20
            try clear c20b0
            try clear c21
            try clear c21b0
            try clear c21b1
            try clear c23
            try clear c24
            try clear c25
            try clear c25b0
            try clear c25b1
            try clear c29
            try clear c30
            try clear c31
            try clear c36
            try clear c37
            try clear c38
            try clear c38b0
            try clear c38b1
            try clear p39
            try clear q39
            try clear hx39
            try clear hf39
            try clear c48
            try clear c48b0
            try clear c48b1
            try clear q51
            try clear c52
            try clear c52b0
            try clear c52b1
            try clear c52b2
            try clear c54
            try clear c54b0
            try clear c55
            try clear c55b0
            try clear c56
            try clear c56b0
            try clear c57
            try clear c57b0
            try clear c61
            try clear c61b0
            try clear c62
            try clear c62b0
            try clear c63
            try clear c63b0
            try clear c63b1
            try clear p64
            try clear q64
            try clear hx64
            try clear hf64
            try clear hcz41_0
            try clear hcz41_1
            try clear hcz41_2
            try clear hcz41_3
            try clear hcz41_4
            try clear hcz41_5
            try clear hcz46_0
            try clear hcz46_1
            try clear hcz46_2
            try clear hcz46_3
            try clear hcz46_4
            try clear hcz46_5
            try clear hcz50_0
            try clear hcz50_1
            try clear hcz50_2
            try clear hcz50_3
            try clear hcz50_4
            try clear hcz50_5
            try clear hcz59_0
            try clear hcz59_1
            try clear hcz59_2
            try clear hcz59_3
            try clear hcz59_4
            try clear hcz59_5
            try clear hcz66_0
            try clear hcz66_1
            try clear hcz66_2
            try clear hcz66_3
            try clear hcz66_4
            try clear hcz66_5
            try clear hcz71_0
            try clear hcz71_1
            try clear hcz71_2
            try clear hcz71_3
            try clear hcz71_4
            try clear hcz71_5
            try clear hfz41_0
            try clear hfz41_1
            try clear hfz41_2
            try clear hfz41_3
            try clear hfz41_4
            try clear hfz41_5
            try clear hfz46_0
            try clear hfz46_1
            try clear hfz46_2
            try clear hfz46_3
            try clear hfz46_4
            try clear hfz46_5
            try clear hfz50_0
            try clear hfz50_1
            try clear hfz50_2
            try clear hfz50_3
            try clear hfz50_4
            try clear hfz50_5
            try clear hfz59_0
            try clear hfz59_1
            try clear hfz59_2
            try clear hfz59_3
            try clear hfz59_4
            try clear hfz59_5
            try clear hfz66_0
            try clear hfz66_1
            try clear hfz66_2
            try clear hfz66_3
            try clear hfz66_4
            try clear hfz66_5
            try clear hfz71_0
            try clear hfz71_1
            try clear hfz71_2
            try clear hfz71_3
            try clear hfz71_4
            try clear hfz71_5
            try clear hx124_0
            try clear hx125_0
            try clear hx126_0
            try clear hx126_1
            try clear hx126_2
            try clear hx126_3
            try clear hx126_4
            try clear hx126_5
            try clear hx127_0
            try clear hx127_1
            try clear hx127_2
            try clear hx127_3
            try clear hx127_4
            try clear hx127_5
            try clear hx128_0
            try clear hx129_0
            try clear hx130_0
            try clear hx135_0
            try clear hx136_0
            try clear hx136_1
            try clear hx136_2
            try clear hx136_3
            try clear hx136_4
            try clear hx136_5
            try clear hx137_0
            try clear hx137_1
            try clear hx137_2
            try clear hx137_3
            try clear hx137_4
            try clear hx137_5
            try clear hx138_0
            try clear hx139_0
            try clear hx140_0
            try clear hx39_0
            try clear hx64_0
            try clear p124
            try clear p125
            try clear p126
            try clear p127
            try clear p128
            try clear p129
            try clear p130
            try clear p135
            try clear p136
            try clear p137
            try clear p138
            try clear p139
            try clear p140
            try clear p39
            try clear p64
            try clear q124
            try clear q125
            try clear q126
            try clear q127
            try clear q128
            try clear q129
            try clear q130
            try clear q135
            try clear q136
            try clear q137
            try clear q138
            try clear q139
            try clear q140
            try clear q39
            try clear q51
            try clear q64
            obtain ⟨kq, x3_16, x4_16, HA, HJ16, HO_3, HO_4, HB⟩ := hcut
            cases kq with
            | zero => exact absurd HA.out (by simp [tree_Right.j3])
            | succ kj16 =>
             have H := HA.out
             clear HA
             simp only [tree_Right.j3] at H
             replace H := Option.bind_eq_some_iff.mp H
             obtain ⟨t142, A730, H⟩ := H
             replace H : (if t142 = true then (if x37_2 > 0 then (if x3_16.length < 17592186044416 then (tree_Right.l0 kj16 l0 (x3_16 ++ [x37_2]) x4_16 l0 (l0.length : Int) (wrap64 (x37_2 + 1))) else (none)) else (tree_Right.l0 kj16 l0 x3_16 x4_16 l0 (l0.length : Int) (wrap64 (x37_2 + 1)))) else (some 53)) = some r := H
             have A73 := Aside0.mk A730
             clear A730
             by_cases c74 : t142 = true
             ·subst c74
              have H1 : (if x37_2 > 0 then (if x3_16.length < 17592186044416 then (tree_Right.l0 kj16 l0 (x3_16 ++ [x37_2]) x4_16 l0 (l0.length : Int) (wrap64 (x37_2 + 1))) else (none)) else (tree_Right.l0 kj16 l0 x3_16 x4_16 l0 (l0.length : Int) (wrap64 (x37_2 + 1)))) = some r := by rw [if_pos rfl] at H; exact H
              clear H
              have H := H1
              clear H1
              by_cases c75 : x37_2 > 0
              ·rw [if_pos c75] at H
               have c75b0 : decide (0 < x37_2) = true := decide_eq_true c75
               clear c75
               by_cases c76 : x3_16.length < 17592186044416
               ·rw [if_pos c76] at H
                have LMc76 := Aside0.mk c76
                clear c76
                obtain ⟨y143, hy143⟩ : ∃ y_ : List Int, y_ = (x3_16 ++ [x37_2]) := ⟨_, rfl⟩
                replace H : (tree_Right.l0 kj16 l0 y143 x4_16 l0 (l0.length : Int) (wrap64 (x37_2 + 1))) = some r := by first | (rw [hy143]; with_reducible exact H) | (have H2_ := (Option.bind_some _ _).symm.trans H; rw [hy143]; with_reducible exact H2_) | (have H2_ := (Option.bind_some _ _).symm.trans H; with_reducible exact H2_) | with_reducible exact H | (rw [hy143]; exact H) | exact H
                have Ny143 := Aside0.mk hy143
                clear hy143
                have H' := Aside0.mk H
                clear H
                obtain ⟨Ao77, co77, eo77⟩ := Kd.R_slice HO_3.out
                subst eo77
                go_wp2_with (first | (go_at_call 56; (with_reducible refine (tree_fits.calls kj16 _ _ l0 _ _ x3_16 x37_2 true _ ?side1 ?side2 ?side3 ?side4 A73.out (by first | exact hG1 | exact G1.below hG1 (by assumption) | exact G1.below hG1 HB.out | (apply G1.below hG1; repeat (first | (with_reducible first | exact HB.out | apply below_alloc | apply pw_below_drewN | apply below_drew1 | exact Below.refl _ _) | exact HB.out | exact Below.refl _ _)) | (have hd_ := ‹Aside0 (Drawn0 _ _)›.out.below; exact G1.below hG1 hd_))).mono ?_); (case side1 => repeat (first | exact (Kd.C_below HR0.out HB.out) | (with_reducible refine Kd.C_alloc ?_ _) | (with_reducible refine Kd.C_drewN ?_ _) | (with_reducible refine Kd.C_drew ?_))); (case side2 => exact HC0.out); (case side3 => repeat (first | exact (Kd.R_reads' HO_3.out).2.2 | (with_reducible refine Kd.C_alloc ?_ _) | (with_reducible refine Kd.C_drewN ?_ _) | (with_reducible refine Kd.C_drew ?_))); (case side4 => exact (Kd.R_reads' HO_3.out).2.1); rintro e w78 ⟨rfl, hb⟩; have n0_ := Aside0.mk (Kd.R_below (by (with_reducible repeat (first | apply Kd.R_alloc | apply Kd.R_drewN | apply Kd.R_drew)); exact HO_3.out) hb); have n1_ := Aside0.mk (Kd.R_below (by (with_reducible repeat (first | apply Kd.R_alloc | apply Kd.R_drewN | apply Kd.R_drew)); exact HO_4.out) hb); have n2_ := Aside0.mk (below_step (by repeat (first | (with_reducible first | exact HB.out | apply below_alloc | apply pw_below_drewN | apply below_drew1) | exact HB.out)) hb); clear HO_3; clear HO_4; clear HB; have HO_3 := n0_; have HO_4 := n1_; have HB := n2_; clear n0_ n1_ n2_; (try clear hb); (try clear hb2); (try clear hk); (try clear hi)) | ((with_reducible refine gate_builtin (b := .append) (xs := #[.tmp 112, .tmp 114]) rfl ?_); (try (refine gate_guard (by rfl) ?_; dsimp only)); at_builtin; refine Kd.R_append (Kd.int .i64) (w0 := w) w.heap.size rfl (.tmp 112) (.tmp 114) 35 3 (.int .i64 0) 8 rfl Tryd.underlying35 info3 rfl (by decide) (by omega) (.slice Ao77 x3_16.length co77) x3_16 x37_2 [.int .i64 x37_2] (fun k_ => some k_ ≠ (v120 : Value).ownBlock) (fun _ => False) rfl rfl ?aP (fun _ hk => hk.elim) ?aF ?aO ?aB ?aS ?aL ?_; (case aP => exact rfl); (case aB => exact (by repeat (first | (with_reducible first | exact HB.out | apply below_alloc | apply pw_below_drewN | apply below_drew1) | exact HB.out))); (case aF => exact (fun k_ hk => Kd.fresh' (Kd.R_lt (by (with_reducible repeat (first | apply Kd.R_alloc | apply Kd.R_drewN | apply Kd.R_drew)); exact HO_4.out)) k_ hk)); (case aO => exact (by (with_reducible repeat (first | apply Kd.R_alloc | apply Kd.R_drewN | apply Kd.R_drew)); exact HO_3.out)); (case aS => exact (below_size (by repeat (first | (with_reducible first | exact HB.out | apply below_alloc | apply pw_below_drewN | apply below_drew1) | exact HB.out)))); (case aL => have := LMc76.out; first | omega | (simp [ByteArray.size]; omega)); intro v144 w79 ho hb hg hat; rw [← Ny143.out] at ho; have n0_ := Aside0.mk (Kd.R_after (ok := (fun _ => True)) (by (with_reducible repeat (first | apply Kd.R_alloc | apply Kd.R_drewN | apply Kd.R_drew)); exact Kd.R_mono HO_4.out (fun _ hk => ⟨trivial, hk⟩)) hg hat); have n1_ := Aside0.mk (hb); have n2_ := Aside0.mk (ho); clear HO_4; clear HB; clear HO_3; have HO_4 := n0_; have HB := n1_; have HO145 := n2_; clear n0_ n1_ n2_; clear ho hb hg hat))
                repeat (go_quiet (first | (go_at_call 56; (with_reducible refine (tree_fits.calls kj16 _ _ l0 _ _ x3_16 x37_2 true _ ?side1 ?side2 ?side3 ?side4 A73.out (by first | exact hG1 | exact G1.below hG1 (by assumption) | exact G1.below hG1 HB.out | (apply G1.below hG1; repeat (first | (with_reducible first | exact HB.out | apply below_alloc | apply pw_below_drewN | apply below_drew1 | exact Below.refl _ _) | exact HB.out | exact Below.refl _ _)) | (have hd_ := ‹Aside0 (Drawn0 _ _)›.out.below; exact G1.below hG1 hd_))).mono ?_); (case side1 => repeat (first | exact (Kd.C_below HR0.out HB.out) | (with_reducible refine Kd.C_alloc ?_ _) | (with_reducible refine Kd.C_drewN ?_ _) | (with_reducible refine Kd.C_drew ?_))); (case side2 => exact HC0.out); (case side3 => repeat (first | exact (Kd.R_reads' HO_3.out).2.2 | (with_reducible refine Kd.C_alloc ?_ _) | (with_reducible refine Kd.C_drewN ?_ _) | (with_reducible refine Kd.C_drew ?_))); (case side4 => exact (Kd.R_reads' HO_3.out).2.1); rintro e w78 ⟨rfl, hb⟩; have n0_ := Aside0.mk (Kd.R_below (by (with_reducible repeat (first | apply Kd.R_alloc | apply Kd.R_drewN | apply Kd.R_drew)); exact HO_3.out) hb); have n1_ := Aside0.mk (Kd.R_below (by (with_reducible repeat (first | apply Kd.R_alloc | apply Kd.R_drewN | apply Kd.R_drew)); exact HO_4.out) hb); have n2_ := Aside0.mk (below_step (by repeat (first | (with_reducible first | exact HB.out | apply below_alloc | apply pw_below_drewN | apply below_drew1) | exact HB.out)) hb); clear HO_3; clear HO_4; clear HB; have HO_3 := n0_; have HO_4 := n1_; have HB := n2_; clear n0_ n1_ n2_; (try clear hb); (try clear hb2); (try clear hk); (try clear hi)) | ((with_reducible refine gate_builtin (b := .append) (xs := #[.tmp 112, .tmp 114]) rfl ?_); (try (refine gate_guard (by rfl) ?_; dsimp only)); at_builtin; refine Kd.R_append (Kd.int .i64) (w0 := w) w.heap.size rfl (.tmp 112) (.tmp 114) 35 3 (.int .i64 0) 8 rfl Tryd.underlying35 info3 rfl (by decide) (by omega) (.slice Ao77 x3_16.length co77) x3_16 x37_2 [.int .i64 x37_2] (fun k_ => some k_ ≠ (v120 : Value).ownBlock) (fun _ => False) rfl rfl ?aP (fun _ hk => hk.elim) ?aF ?aO ?aB ?aS ?aL ?_; (case aP => exact rfl); (case aB => exact (by repeat (first | (with_reducible first | exact HB.out | apply below_alloc | apply pw_below_drewN | apply below_drew1) | exact HB.out))); (case aF => exact (fun k_ hk => Kd.fresh' (Kd.R_lt (by (with_reducible repeat (first | apply Kd.R_alloc | apply Kd.R_drewN | apply Kd.R_drew)); exact HO_4.out)) k_ hk)); (case aO => exact (by (with_reducible repeat (first | apply Kd.R_alloc | apply Kd.R_drewN | apply Kd.R_drew)); exact HO_3.out)); (case aS => exact (below_size (by repeat (first | (with_reducible first | exact HB.out | apply below_alloc | apply pw_below_drewN | apply below_drew1) | exact HB.out)))); (case aL => have := LMc76.out; first | omega | (simp [ByteArray.size]; omega)); intro v144 w79 ho hb hg hat; rw [← Ny143.out] at ho; have n0_ := Aside0.mk (Kd.R_after (ok := (fun _ => True)) (by (with_reducible repeat (first | apply Kd.R_alloc | apply Kd.R_drewN | apply Kd.R_drew)); exact Kd.R_mono HO_4.out (fun _ hk => ⟨trivial, hk⟩)) hg hat); have n1_ := Aside0.mk (hb); have n2_ := Aside0.mk (ho); clear HO_4; clear HB; clear HO_3; have HO_4 := n0_; have HB := n1_; have HO145 := n2_; clear n0_ n1_ n2_; clear ho hb hg hat)); try go_wp2_with (first | (go_at_call 56; (with_reducible refine (tree_fits.calls kj16 _ _ l0 _ _ x3_16 x37_2 true _ ?side1 ?side2 ?side3 ?side4 A73.out (by first | exact hG1 | exact G1.below hG1 (by assumption) | exact G1.below hG1 HB.out | (apply G1.below hG1; repeat (first | (with_reducible first | exact HB.out | apply below_alloc | apply pw_below_drewN | apply below_drew1 | exact Below.refl _ _) | exact HB.out | exact Below.refl _ _)) | (have hd_ := ‹Aside0 (Drawn0 _ _)›.out.below; exact G1.below hG1 hd_))).mono ?_); (case side1 => repeat (first | exact (Kd.C_below HR0.out HB.out) | (with_reducible refine Kd.C_alloc ?_ _) | (with_reducible refine Kd.C_drewN ?_ _) | (with_reducible refine Kd.C_drew ?_))); (case side2 => exact HC0.out); (case side3 => repeat (first | exact (Kd.R_reads' HO_3.out).2.2 | (with_reducible refine Kd.C_alloc ?_ _) | (with_reducible refine Kd.C_drewN ?_ _) | (with_reducible refine Kd.C_drew ?_))); (case side4 => exact (Kd.R_reads' HO_3.out).2.1); rintro e w78 ⟨rfl, hb⟩; have n0_ := Aside0.mk (Kd.R_below (by (with_reducible repeat (first | apply Kd.R_alloc | apply Kd.R_drewN | apply Kd.R_drew)); exact HO_3.out) hb); have n1_ := Aside0.mk (Kd.R_below (by (with_reducible repeat (first | apply Kd.R_alloc | apply Kd.R_drewN | apply Kd.R_drew)); exact HO_4.out) hb); have n2_ := Aside0.mk (below_step (by repeat (first | (with_reducible first | exact HB.out | apply below_alloc | apply pw_below_drewN | apply below_drew1) | exact HB.out)) hb); clear HO_3; clear HO_4; clear HB; have HO_3 := n0_; have HO_4 := n1_; have HB := n2_; clear n0_ n1_ n2_; (try clear hb); (try clear hb2); (try clear hk); (try clear hi)) | ((with_reducible refine gate_builtin (b := .append) (xs := #[.tmp 112, .tmp 114]) rfl ?_); (try (refine gate_guard (by rfl) ?_; dsimp only)); at_builtin; refine Kd.R_append (Kd.int .i64) (w0 := w) w.heap.size rfl (.tmp 112) (.tmp 114) 35 3 (.int .i64 0) 8 rfl Tryd.underlying35 info3 rfl (by decide) (by omega) (.slice Ao77 x3_16.length co77) x3_16 x37_2 [.int .i64 x37_2] (fun k_ => some k_ ≠ (v120 : Value).ownBlock) (fun _ => False) rfl rfl ?aP (fun _ hk => hk.elim) ?aF ?aO ?aB ?aS ?aL ?_; (case aP => exact rfl); (case aB => exact (by repeat (first | (with_reducible first | exact HB.out | apply below_alloc | apply pw_below_drewN | apply below_drew1) | exact HB.out))); (case aF => exact (fun k_ hk => Kd.fresh' (Kd.R_lt (by (with_reducible repeat (first | apply Kd.R_alloc | apply Kd.R_drewN | apply Kd.R_drew)); exact HO_4.out)) k_ hk)); (case aO => exact (by (with_reducible repeat (first | apply Kd.R_alloc | apply Kd.R_drewN | apply Kd.R_drew)); exact HO_3.out)); (case aS => exact (below_size (by repeat (first | (with_reducible first | exact HB.out | apply below_alloc | apply pw_below_drewN | apply below_drew1) | exact HB.out)))); (case aL => have := LMc76.out; first | omega | (simp [ByteArray.size]; omega)); intro v144 w79 ho hb hg hat; rw [← Ny143.out] at ho; have n0_ := Aside0.mk (Kd.R_after (ok := (fun _ => True)) (by (with_reducible repeat (first | apply Kd.R_alloc | apply Kd.R_drewN | apply Kd.R_drew)); exact Kd.R_mono HO_4.out (fun _ hk => ⟨trivial, hk⟩)) hg hat); have n1_ := Aside0.mk (hb); have n2_ := Aside0.mk (ho); clear HO_4; clear HB; clear HO_3; have HO_4 := n0_; have HB := n1_; have HO145 := n2_; clear n0_ n1_ n2_; clear ho hb hg hat)))
                go_roundg kj16
                case measure => have := HJ1.out; have := HK2.out; have := HJ16.out; omega
                case rel => exact ⟨(y143), (x4_16), (wrap64 (x37_2 + 1)), (by first | rfl | (simp; done) | (simp [*]; done) | (simp [bne, List.isEmpty_iff]; done) | (simp [bne, List.isEmpty_iff, *]; done) | (simp [bne]; rfl)), H', ⟨by have := HJ1.out; have := HK2.out; have := HJ16.out; omega⟩, ⟨by (with_reducible repeat (first | apply Kd.R_alloc | apply Kd.R_drewN | apply Kd.R_drew)); exact HO145.out⟩, ⟨by (with_reducible repeat (first | apply Kd.R_alloc | apply Kd.R_drewN | apply Kd.R_drew)); exact Kd.R_mono HO_4.out (fun _ hk => hk.2)⟩, ⟨by repeat (first | (with_reducible first | exact HB.out | apply below_alloc | apply pw_below_drewN | apply below_drew1) | exact HB.out)⟩⟩
               ·rw [if_neg c76] at H
                exact absurd H (by simp)
              ·rw [if_neg c75] at H
               have c75b0 : decide (0 < x37_2) = false := decide_eq_false c75
               clear c75
               have H' := Aside0.mk H
               clear H
               obtain ⟨Ao80, co80, eo80⟩ := Kd.R_slice HO_3.out
               subst eo80
               go_wp2_with (first | (go_at_call 56; (with_reducible refine (tree_fits.calls kj16 _ _ l0 _ _ x3_16 x37_2 true _ ?side1 ?side2 ?side3 ?side4 A73.out (by first | exact hG1 | exact G1.below hG1 (by assumption) | exact G1.below hG1 HB.out | (apply G1.below hG1; repeat (first | (with_reducible first | exact HB.out | apply below_alloc | apply pw_below_drewN | apply below_drew1 | exact Below.refl _ _) | exact HB.out | exact Below.refl _ _)) | (have hd_ := ‹Aside0 (Drawn0 _ _)›.out.below; exact G1.below hG1 hd_))).mono ?_); (case side1 => repeat (first | exact (Kd.C_below HR0.out HB.out) | (with_reducible refine Kd.C_alloc ?_ _) | (with_reducible refine Kd.C_drewN ?_ _) | (with_reducible refine Kd.C_drew ?_))); (case side2 => exact HC0.out); (case side3 => repeat (first | exact (Kd.R_reads' HO_3.out).2.2 | (with_reducible refine Kd.C_alloc ?_ _) | (with_reducible refine Kd.C_drewN ?_ _) | (with_reducible refine Kd.C_drew ?_))); (case side4 => exact (Kd.R_reads' HO_3.out).2.1); rintro e w81 ⟨rfl, hb⟩; have n0_ := Aside0.mk (Kd.R_below (by (with_reducible repeat (first | apply Kd.R_alloc | apply Kd.R_drewN | apply Kd.R_drew)); exact HO_3.out) hb); have n1_ := Aside0.mk (Kd.R_below (by (with_reducible repeat (first | apply Kd.R_alloc | apply Kd.R_drewN | apply Kd.R_drew)); exact HO_4.out) hb); have n2_ := Aside0.mk (below_step (by repeat (first | (with_reducible first | exact HB.out | apply below_alloc | apply pw_below_drewN | apply below_drew1) | exact HB.out)) hb); clear HO_3; clear HO_4; clear HB; have HO_3 := n0_; have HO_4 := n1_; have HB := n2_; clear n0_ n1_ n2_; (try clear hb); (try clear hb2); (try clear hk); (try clear hi)))
               repeat (go_quiet (first | (go_at_call 56; (with_reducible refine (tree_fits.calls kj16 _ _ l0 _ _ x3_16 x37_2 true _ ?side1 ?side2 ?side3 ?side4 A73.out (by first | exact hG1 | exact G1.below hG1 (by assumption) | exact G1.below hG1 HB.out | (apply G1.below hG1; repeat (first | (with_reducible first | exact HB.out | apply below_alloc | apply pw_below_drewN | apply below_drew1 | exact Below.refl _ _) | exact HB.out | exact Below.refl _ _)) | (have hd_ := ‹Aside0 (Drawn0 _ _)›.out.below; exact G1.below hG1 hd_))).mono ?_); (case side1 => repeat (first | exact (Kd.C_below HR0.out HB.out) | (with_reducible refine Kd.C_alloc ?_ _) | (with_reducible refine Kd.C_drewN ?_ _) | (with_reducible refine Kd.C_drew ?_))); (case side2 => exact HC0.out); (case side3 => repeat (first | exact (Kd.R_reads' HO_3.out).2.2 | (with_reducible refine Kd.C_alloc ?_ _) | (with_reducible refine Kd.C_drewN ?_ _) | (with_reducible refine Kd.C_drew ?_))); (case side4 => exact (Kd.R_reads' HO_3.out).2.1); rintro e w81 ⟨rfl, hb⟩; have n0_ := Aside0.mk (Kd.R_below (by (with_reducible repeat (first | apply Kd.R_alloc | apply Kd.R_drewN | apply Kd.R_drew)); exact HO_3.out) hb); have n1_ := Aside0.mk (Kd.R_below (by (with_reducible repeat (first | apply Kd.R_alloc | apply Kd.R_drewN | apply Kd.R_drew)); exact HO_4.out) hb); have n2_ := Aside0.mk (below_step (by repeat (first | (with_reducible first | exact HB.out | apply below_alloc | apply pw_below_drewN | apply below_drew1) | exact HB.out)) hb); clear HO_3; clear HO_4; clear HB; have HO_3 := n0_; have HO_4 := n1_; have HB := n2_; clear n0_ n1_ n2_; (try clear hb); (try clear hb2); (try clear hk); (try clear hi))); try go_wp2_with (first | (go_at_call 56; (with_reducible refine (tree_fits.calls kj16 _ _ l0 _ _ x3_16 x37_2 true _ ?side1 ?side2 ?side3 ?side4 A73.out (by first | exact hG1 | exact G1.below hG1 (by assumption) | exact G1.below hG1 HB.out | (apply G1.below hG1; repeat (first | (with_reducible first | exact HB.out | apply below_alloc | apply pw_below_drewN | apply below_drew1 | exact Below.refl _ _) | exact HB.out | exact Below.refl _ _)) | (have hd_ := ‹Aside0 (Drawn0 _ _)›.out.below; exact G1.below hG1 hd_))).mono ?_); (case side1 => repeat (first | exact (Kd.C_below HR0.out HB.out) | (with_reducible refine Kd.C_alloc ?_ _) | (with_reducible refine Kd.C_drewN ?_ _) | (with_reducible refine Kd.C_drew ?_))); (case side2 => exact HC0.out); (case side3 => repeat (first | exact (Kd.R_reads' HO_3.out).2.2 | (with_reducible refine Kd.C_alloc ?_ _) | (with_reducible refine Kd.C_drewN ?_ _) | (with_reducible refine Kd.C_drew ?_))); (case side4 => exact (Kd.R_reads' HO_3.out).2.1); rintro e w81 ⟨rfl, hb⟩; have n0_ := Aside0.mk (Kd.R_below (by (with_reducible repeat (first | apply Kd.R_alloc | apply Kd.R_drewN | apply Kd.R_drew)); exact HO_3.out) hb); have n1_ := Aside0.mk (Kd.R_below (by (with_reducible repeat (first | apply Kd.R_alloc | apply Kd.R_drewN | apply Kd.R_drew)); exact HO_4.out) hb); have n2_ := Aside0.mk (below_step (by repeat (first | (with_reducible first | exact HB.out | apply below_alloc | apply pw_below_drewN | apply below_drew1) | exact HB.out)) hb); clear HO_3; clear HO_4; clear HB; have HO_3 := n0_; have HO_4 := n1_; have HB := n2_; clear n0_ n1_ n2_; (try clear hb); (try clear hb2); (try clear hk); (try clear hi))))
               go_roundg kj16
               case measure => have := HJ1.out; have := HK2.out; have := HJ16.out; omega
               case rel => exact ⟨(x3_16), (x4_16), (wrap64 (x37_2 + 1)), (by first | rfl | (simp; done) | (simp [*]; done) | (simp [bne, List.isEmpty_iff]; done) | (simp [bne, List.isEmpty_iff, *]; done) | (simp [bne]; rfl)), H', ⟨by have := HJ1.out; have := HK2.out; have := HJ16.out; omega⟩, ⟨by (with_reducible repeat (first | apply Kd.R_alloc | apply Kd.R_drewN | apply Kd.R_drew)); exact HO_3.out⟩, ⟨by (with_reducible repeat (first | apply Kd.R_alloc | apply Kd.R_drewN | apply Kd.R_drew)); exact HO_4.out⟩, ⟨by repeat (first | (with_reducible first | exact HB.out | apply below_alloc | apply pw_below_drewN | apply below_drew1) | exact HB.out)⟩⟩
             ·replace c74 := Bool.eq_false_iff.mpr c74
              subst c74
              have H1 : (some 53) = some r := by rw [if_neg (show ¬ (false = true) by decide)] at H; exact H
              clear H
              have H := H1
              clear H1
              obtain rfl := Option.some.inj H
              obtain ⟨Ao82, co82, eo82⟩ := Kd.R_slice HO_3.out
              subst eo82
              go_wp2_with (first | (go_at_call 56; (with_reducible refine (tree_fits.calls kj16 _ _ l0 _ _ x3_16 x37_2 false _ ?side1 ?side2 ?side3 ?side4 A73.out (by first | exact hG1 | exact G1.below hG1 (by assumption) | exact G1.below hG1 HB.out | (apply G1.below hG1; repeat (first | (with_reducible first | exact HB.out | apply below_alloc | apply pw_below_drewN | apply below_drew1 | exact Below.refl _ _) | exact HB.out | exact Below.refl _ _)) | (have hd_ := ‹Aside0 (Drawn0 _ _)›.out.below; exact G1.below hG1 hd_))).mono ?_); (case side1 => repeat (first | exact (Kd.C_below HR0.out HB.out) | (with_reducible refine Kd.C_alloc ?_ _) | (with_reducible refine Kd.C_drewN ?_ _) | (with_reducible refine Kd.C_drew ?_))); (case side2 => exact HC0.out); (case side3 => repeat (first | exact (Kd.R_reads' HO_3.out).2.2 | (with_reducible refine Kd.C_alloc ?_ _) | (with_reducible refine Kd.C_drewN ?_ _) | (with_reducible refine Kd.C_drew ?_))); (case side4 => exact (Kd.R_reads' HO_3.out).2.1); rintro e w83 ⟨rfl, hb⟩; have n0_ := Aside0.mk (Kd.R_below (by (with_reducible repeat (first | apply Kd.R_alloc | apply Kd.R_drewN | apply Kd.R_drew)); exact HO_3.out) hb); have n1_ := Aside0.mk (Kd.R_below (by (with_reducible repeat (first | apply Kd.R_alloc | apply Kd.R_drewN | apply Kd.R_drew)); exact HO_4.out) hb); have n2_ := Aside0.mk (below_step (by repeat (first | (with_reducible first | exact HB.out | apply below_alloc | apply pw_below_drewN | apply below_drew1) | exact HB.out)) hb); clear HO_3; clear HO_4; clear HB; have HO_3 := n0_; have HO_4 := n1_; have HB := n2_; clear n0_ n1_ n2_; (try clear hb); (try clear hb2); (try clear hk); (try clear hi)))
              repeat (go_quiet (first | (go_at_call 56; (with_reducible refine (tree_fits.calls kj16 _ _ l0 _ _ x3_16 x37_2 false _ ?side1 ?side2 ?side3 ?side4 A73.out (by first | exact hG1 | exact G1.below hG1 (by assumption) | exact G1.below hG1 HB.out | (apply G1.below hG1; repeat (first | (with_reducible first | exact HB.out | apply below_alloc | apply pw_below_drewN | apply below_drew1 | exact Below.refl _ _) | exact HB.out | exact Below.refl _ _)) | (have hd_ := ‹Aside0 (Drawn0 _ _)›.out.below; exact G1.below hG1 hd_))).mono ?_); (case side1 => repeat (first | exact (Kd.C_below HR0.out HB.out) | (with_reducible refine Kd.C_alloc ?_ _) | (with_reducible refine Kd.C_drewN ?_ _) | (with_reducible refine Kd.C_drew ?_))); (case side2 => exact HC0.out); (case side3 => repeat (first | exact (Kd.R_reads' HO_3.out).2.2 | (with_reducible refine Kd.C_alloc ?_ _) | (with_reducible refine Kd.C_drewN ?_ _) | (with_reducible refine Kd.C_drew ?_))); (case side4 => exact (Kd.R_reads' HO_3.out).2.1); rintro e w83 ⟨rfl, hb⟩; have n0_ := Aside0.mk (Kd.R_below (by (with_reducible repeat (first | apply Kd.R_alloc | apply Kd.R_drewN | apply Kd.R_drew)); exact HO_3.out) hb); have n1_ := Aside0.mk (Kd.R_below (by (with_reducible repeat (first | apply Kd.R_alloc | apply Kd.R_drewN | apply Kd.R_drew)); exact HO_4.out) hb); have n2_ := Aside0.mk (below_step (by repeat (first | (with_reducible first | exact HB.out | apply below_alloc | apply pw_below_drewN | apply below_drew1) | exact HB.out)) hb); clear HO_3; clear HO_4; clear HB; have HO_3 := n0_; have HO_4 := n1_; have HB := n2_; clear n0_ n1_ n2_; (try clear hb); (try clear hb2); (try clear hk); (try clear hi))); try go_wp2_with (first | (go_at_call 56; (with_reducible refine (tree_fits.calls kj16 _ _ l0 _ _ x3_16 x37_2 false _ ?side1 ?side2 ?side3 ?side4 A73.out (by first | exact hG1 | exact G1.below hG1 (by assumption) | exact G1.below hG1 HB.out | (apply G1.below hG1; repeat (first | (with_reducible first | exact HB.out | apply below_alloc | apply pw_below_drewN | apply below_drew1 | exact Below.refl _ _) | exact HB.out | exact Below.refl _ _)) | (have hd_ := ‹Aside0 (Drawn0 _ _)›.out.below; exact G1.below hG1 hd_))).mono ?_); (case side1 => repeat (first | exact (Kd.C_below HR0.out HB.out) | (with_reducible refine Kd.C_alloc ?_ _) | (with_reducible refine Kd.C_drewN ?_ _) | (with_reducible refine Kd.C_drew ?_))); (case side2 => exact HC0.out); (case side3 => repeat (first | exact (Kd.R_reads' HO_3.out).2.2 | (with_reducible refine Kd.C_alloc ?_ _) | (with_reducible refine Kd.C_drewN ?_ _) | (with_reducible refine Kd.C_drew ?_))); (case side4 => exact (Kd.R_reads' HO_3.out).2.1); rintro e w83 ⟨rfl, hb⟩; have n0_ := Aside0.mk (Kd.R_below (by (with_reducible repeat (first | apply Kd.R_alloc | apply Kd.R_drewN | apply Kd.R_drew)); exact HO_3.out) hb); have n1_ := Aside0.mk (Kd.R_below (by (with_reducible repeat (first | apply Kd.R_alloc | apply Kd.R_drewN | apply Kd.R_drew)); exact HO_4.out) hb); have n2_ := Aside0.mk (below_step (by repeat (first | (with_reducible first | exact HB.out | apply below_alloc | apply pw_below_drewN | apply below_drew1) | exact HB.out)) hb); clear HO_3; clear HO_4; clear HB; have HO_3 := n0_; have HO_4 := n1_; have HB := n2_; clear n0_ n1_ n2_; (try clear hb); (try clear hb2); (try clear hk); (try clear hi))))
              go_ret
              exact ⟨by first | rfl | (simp [errW_none, errW_some] <;> rfl) | (simp [*, errW_none, errW_some] <;> rfl), by repeat (first | (with_reducible first | exact HB.out | apply below_alloc | apply pw_below_drewN | apply below_drew1) | exact HB.out)⟩
          ·rw [if_neg c16] at H
           exact absurd H (by simp)
         ·rw [if_neg c15] at H
          exact absurd H (by simp)
        ·rw [if_neg c14] at H
         have c14b0 : decide (x37_2 < (l0.length : Int)) = false := decide_eq_false c14
         clear c14
         have H' := Aside0.mk H
         clear H
         go_wp2
         repeat (go_quiet (fail); try go_wp2)
         go_loopg [119] k2 (fun kq v119 w' => ∃ (x119_3 : Int), v119 = .int .i64 x119_3 ∧ Aside0 (tree_Right.l2 kq x4_2 l0 (l0.length : Int) x119_3 = some r) ∧ Aside0 (kq ≤ k2) ∧ Aside0 (Kd.R (Kd.int .i64) 3 w' w.heap.size (fun _ => True) v120 x4_2) ∧ Aside0 (Below w.heap.size w w'))
         case atStart => exact ⟨(0), (by first | rfl | (simp; done) | (simp [*]; done) | (simp [bne, List.isEmpty_iff]; done) | (simp [bne, List.isEmpty_iff, *]; done) | (simp [bne]; rfl)), H', ⟨Nat.le_refl _⟩, ⟨by (with_reducible repeat (first | apply Kd.R_alloc | apply Kd.R_drewN | apply Kd.R_drew)); exact Kd.R_mono HO_4.out (fun _ hk => trivial)⟩, ⟨by repeat (first | (with_reducible first | exact HB.out | apply below_alloc | apply pw_below_drewN | apply below_drew1) | exact HB.out)⟩⟩
         case round =>
          clear H'
          obtain ⟨x119_3, rfl, HA, HK3, HO_4, HB⟩ := hrel
          cases gk with
          | zero => exact absurd HA.out (by simp [tree_Right.l2])
          | succ k3 =>
           have H := HA.out
           clear HA
           simp only [tree_Right.l2] at H
           by_cases c84 : x119_3 < (l0.length : Int)
           ·rw [if_pos c84] at H
            by_cases c85 : 0 ≤ x119_3
            ·rw [if_pos c85, if_pos c84] at H
             by_cases c87 : x119_3 < (x4_2.length : Int)
             ·rw [if_pos c87] at H
              obtain ⟨j, rfl⟩ := Int.eq_ofNat_of_zero_le c85
              obtain ⟨Aok, cok, eok⟩ := Kd.R_slice HO_4.out
              subst eok
              obtain ⟨adk, ek, hxk⟩ := Kd.at_int (Kd.R_reads' HO_4.out).2.2 (j : Int) c85 c87
              cases ek
              obtain ⟨ad146, A146_2, c146_2, A146_5, c146_5, e146, hx0, hx1, hx2, hx3, hx4, hx5, hl146_2, hi146_2, hl146_5, hi146_5⟩ := at_T37 HR0.out (j : Int) c85 c84
              cases e146
              simp only [Int.toNat_natCast] at hxk hx0 hx1 hx2 hx3 hx4 hx5
              replace hx0 := pw_cell_below HB.out hx0
              replace hx1 := pw_cell_below HB.out hx1
              replace hx2 := pw_cell_below HB.out hx2
              replace hx3 := pw_cell_below HB.out hx3
              replace hx4 := pw_cell_below HB.out hx4
              replace hx5 := pw_cell_below HB.out hx5
              have hj1 : j < l0.length := by omega
              have hj2 : j < x4_2.length := by omega
              clear hl146_2 hi146_2 hi146_5 c84 c85 c87
              generalize rd_T37 l0 (j : Int) = nn at *
              generalize rd x4_2 (j : Int) = qq at *
              by_cases c88 : qq = (nn.f5.length : Int)
              ·rw [if_pos c88] at H
               have H' := Aside0.mk H
               clear H
               have c88b : (qq != (nn.f5.length : Int)) = false := bne_eq_false_iff_eq.mpr c88
               clear c88
               go_wp2_with fail
               have y5 : (wr.alloc (.cells #[.int .u8 nn.f0, .string nn.f1, .slice A146_2 nn.f2.length c146_2, .string nn.f3, .int .i64 nn.f4, .slice A146_5 nn.f5.length c146_5] 37)).cell? ⟨wr.heap.size, 5, none⟩ = some (.slice A146_5 nn.f5.length c146_5) := by rw [blk_cell (heap_alloc_new _ _)]; rfl
               have yk := pw_cell_below (below_alloc (Below.refl _ _) (.cells #[.int .u8 nn.f0, .string nn.f1, .slice A146_2 nn.f2.length c146_2, .string nn.f3, .int .i64 nn.f4, .slice A146_5 nn.f5.length c146_5] 37)) hxk
               have hO := Aside0.mk (Kd.R_alloc HO_4.out (.cells #[.int .u8 nn.f0, .string nn.f1, .slice A146_2 nn.f2.length c146_2, .string nn.f3, .int .i64 nn.f4, .slice A146_5 nn.f5.length c146_5] 37))
               have hB := Aside0.mk (below_alloc HB.out (.cells #[.int .u8 nn.f0, .string nn.f1, .slice A146_2 nn.f2.length c146_2, .string nn.f3, .int .i64 nn.f4, .slice A146_5 nn.f5.length c146_5] 37))
               generalize wr.alloc (.cells #[.int .u8 nn.f0, .string nn.f1, .slice A146_2 nn.f2.length c146_2, .string nn.f3, .int .i64 nn.f4, .slice A146_5 nn.f5.length c146_5] 37) = wq at *
               generalize wr.heap.size = gq at *
               clear HO_4 HB hx0 hx1 hx2 hx3 hx4 hx5 hxk
               go_quiet (fail)
               go_wp2
               go_roundg k3
               case measure => have := HJ1.out; have := HK2.out; have := HK3.out; omega
               case rel => exact ⟨_, rfl, H', ⟨by have := HJ1.out; have := HK2.out; have := HK3.out; omega⟩, ⟨by (with_reducible repeat (first | apply Kd.R_alloc | apply Kd.R_drewN | apply Kd.R_drew)); exact hO.out⟩, ⟨by repeat (first | (with_reducible first | exact hB.out | apply below_alloc | apply pw_below_drewN | apply below_drew1) | exact hB.out)⟩⟩
              ·rw [if_neg c88] at H
               obtain rfl := Option.some.inj H
               clear H
               have c88b : (qq != (nn.f5.length : Int)) = true := bne_iff_ne.mpr c88
               clear c88
               go_wp2_with fail
               have y5 : (wr.alloc (.cells #[.int .u8 nn.f0, .string nn.f1, .slice A146_2 nn.f2.length c146_2, .string nn.f3, .int .i64 nn.f4, .slice A146_5 nn.f5.length c146_5] 37)).cell? ⟨wr.heap.size, 5, none⟩ = some (.slice A146_5 nn.f5.length c146_5) := by rw [blk_cell (heap_alloc_new _ _)]; rfl
               have yk := pw_cell_below (below_alloc (Below.refl _ _) (.cells #[.int .u8 nn.f0, .string nn.f1, .slice A146_2 nn.f2.length c146_2, .string nn.f3, .int .i64 nn.f4, .slice A146_5 nn.f5.length c146_5] 37)) hxk
               have hO := Aside0.mk (Kd.R_alloc HO_4.out (.cells #[.int .u8 nn.f0, .string nn.f1, .slice A146_2 nn.f2.length c146_2, .string nn.f3, .int .i64 nn.f4, .slice A146_5 nn.f5.length c146_5] 37))
               have hB := Aside0.mk (below_alloc HB.out (.cells #[.int .u8 nn.f0, .string nn.f1, .slice A146_2 nn.f2.length c146_2, .string nn.f3, .int .i64 nn.f4, .slice A146_5 nn.f5.length c146_5] 37))
               generalize wr.alloc (.cells #[.int .u8 nn.f0, .string nn.f1, .slice A146_2 nn.f2.length c146_2, .string nn.f3, .int .i64 nn.f4, .slice A146_5 nn.f5.length c146_5] 37) = wq at *
               generalize wr.heap.size = gq at *
               clear HO_4 HB hx0 hx1 hx2 hx3 hx4 hx5 hxk
               go_quiet (fail)
               go_wp2
               go_ret
               exact ⟨rfl, by repeat (first | (with_reducible first | exact hB.out | apply below_alloc | apply pw_below_drewN | apply below_drew1) | exact hB.out)⟩
             ·rw [if_neg c87] at H
              exact absurd H (by simp)
            ·rw [if_neg c85] at H
             exact absurd H (by simp)
           ·rw [if_neg c84] at H
            have c84b0 : decide (x119_3 < (l0.length : Int)) = false := decide_eq_false c84
            clear c84
            obtain rfl := Option.some.inj H
            go_wp2
            repeat (go_quiet (fail); try go_wp2)
            go_ret
            exact ⟨by first | rfl | (simp [errW_none, errW_some] <;> rfl) | (simp [*, errW_none, errW_some] <;> rfl), by repeat (first | (with_reducible first | exact HB.out | apply below_alloc | apply pw_below_drewN | apply below_drew1) | exact HB.out)⟩
     ·rw [if_neg c9] at H
      exact absurd H (by simp)
    ·rw [if_neg c8] at H
     exact absurd H (by simp)

end Go.Proofs.YtpfhgolamlnhiaaDoor.XB

namespace Go.Proofs.YtpfhgolamlnhiaaDoor.XB
open Go.RowKit Go.Proofs.YtpfhgolamlnhiaaDoor Go.Proofs.YtpfhgolamlnhiaaDoor.XT Go.Proofs.YtpfhgolamlnhiaaDoor.XA Go.Proofs.YtpfhgolamlnhiaaDoorW.PrintWords Go.Proofs.YtpfhgolamlnhiaaDoorW.PrintLast Go.Proofs.YtpfhgolamlnhiaaDoorW.PrintMore
attribute [local go_sem] max2_int min2_int max_two min_two max_three min_three max_four min_four   -- for this text's walks alone
set_option linter.unusedVariables false
set_option linter.unusedSimpArgs false

end Go.Proofs.YtpfhgolamlnhiaaDoor.XB
