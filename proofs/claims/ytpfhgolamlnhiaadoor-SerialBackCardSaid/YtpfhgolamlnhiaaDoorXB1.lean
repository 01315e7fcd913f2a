-- Written by wip/tools/px.py for this claim, by way of the kit's print of the translation. Lean checks it.
import Derived.Test.YtpfhgolamlnhiaaDoorXT
import Derived.Test.YtpfhgolamlnhiaaDoorXA
import Derived.Test.YtpfhgolamlnhiaaDoorExt2
namespace Go.Proofs.YtpfhgolamlnhiaaDoor.XB
open Go.RowKit Go.Proofs.YtpfhgolamlnhiaaDoor Go.Proofs.YtpfhgolamlnhiaaDoor.XT Go.Proofs.YtpfhgolamlnhiaaDoor.XA Go.Proofs.YtpfhgolamlnhiaaDoorW.PrintWords Go.Proofs.YtpfhgolamlnhiaaDoorW.PrintLast Go.Proofs.YtpfhgolamlnhiaaDoorW.PrintMore
attribute [local go_sem] max2_int min2_int max_two min_two max_three min_three max_four min_four   -- for this text's walks alone
set_option linter.unusedVariables false
set_option linter.unusedSimpArgs false

end Go.Proofs.YtpfhgolamlnhiaaDoor.XB

namespace Go.Proofs.YtpfhgolamlnhiaaDoor.XB
open Go.RowKit Go.Proofs.YtpfhgolamlnhiaaDoor Go.Proofs.YtpfhgolamlnhiaaDoor.XT Go.Proofs.YtpfhgolamlnhiaaDoor.XA Go.Proofs.YtpfhgolamlnhiaaDoorW.PrintWords Go.Proofs.YtpfhgolamlnhiaaDoorW.PrintLast Go.Proofs.YtpfhgolamlnhiaaDoorW.PrintMore
attribute [local go_sem] max2_int min2_int max_two min_two max_three min_three max_four min_four   -- for this text's walks alone
set_option linter.unusedVariables false
set_option linter.unusedSimpArgs false

/-! ### tree_fits: function 56 -/
mutual
def tree_fits.j0 : Nat → List (S37) → List Int → Int → Bool → Int → ByteArray → List (S43) → ByteArray → Int → List Int → Option (Bool)
 | 0, _, _, _, _, _, _, _, _, _, _ => none
 | k + 1, x0, x1, x2, x8, x103000, x103001, x103002, x103003, x103004, x103005 => if x2 = 0 then (if x8 = true then (some (x103003.toList == ([] : List UInt8))) else (some false)) else (if 0 ≤ (wrap64 ((x1.length : Int) - 1)) then (if (wrap64 ((x1.length : Int) - 1)) < (x1.length : Int) then (if 0 ≤ (rd x1 (wrap64 ((x1.length : Int) - 1))) then (if (rd x1 (wrap64 ((x1.length : Int) - 1))) < (x0.length : Int) then (if ((rd_T37 x0 (rd x1 (wrap64 ((x1.length : Int) - 1)))).f0) = 2 then (tree_fits.j1 k x0 x1 x2 x8 true x103000 x103001 x103002 x103003 x103004 x103005 ((rd_T37 x0 (rd x1 (wrap64 ((x1.length : Int) - 1)))).f0) ((rd_T37 x0 (rd x1 (wrap64 ((x1.length : Int) - 1)))).f1) ((rd_T37 x0 (rd x1 (wrap64 ((x1.length : Int) - 1)))).f2) ((rd_T37 x0 (rd x1 (wrap64 ((x1.length : Int) - 1)))).f3) ((rd_T37 x0 (rd x1 (wrap64 ((x1.length : Int) - 1)))).f4) ((rd_T37 x0 (rd x1 (wrap64 ((x1.length : Int) - 1)))).f5)) else (if ((rd_T37 x0 (rd x1 (wrap64 ((x1.length : Int) - 1)))).f0) = 1 then ((tree_Kind.f k ((rd_T37 x0 (rd x1 (wrap64 ((x1.length : Int) - 1)))).f1)).bind fun t106 => (tree_fits.j1 k x0 x1 x2 x8 (decide (t106 ≥ 7)) x103000 x103001 x103002 x103003 x103004 x103005 ((rd_T37 x0 (rd x1 (wrap64 ((x1.length : Int) - 1)))).f0) ((rd_T37 x0 (rd x1 (wrap64 ((x1.length : Int) - 1)))).f1) ((rd_T37 x0 (rd x1 (wrap64 ((x1.length : Int) - 1)))).f2) ((rd_T37 x0 (rd x1 (wrap64 ((x1.length : Int) - 1)))).f3) ((rd_T37 x0 (rd x1 (wrap64 ((x1.length : Int) - 1)))).f4) ((rd_T37 x0 (rd x1 (wrap64 ((x1.length : Int) - 1)))).f5))) else (tree_fits.j1 k x0 x1 x2 x8 false x103000 x103001 x103002 x103003 x103004 x103005 ((rd_T37 x0 (rd x1 (wrap64 ((x1.length : Int) - 1)))).f0) ((rd_T37 x0 (rd x1 (wrap64 ((x1.length : Int) - 1)))).f1) ((rd_T37 x0 (rd x1 (wrap64 ((x1.length : Int) - 1)))).f2) ((rd_T37 x0 (rd x1 (wrap64 ((x1.length : Int) - 1)))).f3) ((rd_T37 x0 (rd x1 (wrap64 ((x1.length : Int) - 1)))).f4) ((rd_T37 x0 (rd x1 (wrap64 ((x1.length : Int) - 1)))).f5)))) else (none)) else (none)) else (none)) else (none))
def tree_fits.j1 : Nat → List (S37) → List Int → Int → Bool → Bool → Int → ByteArray → List (S43) → ByteArray → Int → List Int → Int → ByteArray → List (S43) → ByteArray → Int → List Int → Option (Bool)
 | 0, _, _, _, _, _, _, _, _, _, _, _, _, _, _, _, _, _ => none
 | k + 1, x0, x1, x2, x8, x54, x103000, x103001, x103002, x103003, x103004, x103005, x106000, x106001, x106002, x106003, x106004, x106005 => if x54 = true then (some false) else (if x103000 = 2 then ((slices_Index_int_int.f k x106005 x2).bind fun t107 => (if x8 = true then (if x103003.toList = ([] : List UInt8) then (some false) else ((tree_well.f x103003).bind fun t108 => (if t108 = true then (if t107 < 1 then (some true) else (if 0 ≤ (wrap64 (t107 - 1)) then (if (wrap64 (t107 - 1)) < (x106005.length : Int) then (if 0 ≤ (rd x106005 (wrap64 (t107 - 1))) then (if (rd x106005 (wrap64 (t107 - 1))) < (x0.length : Int) then (some (((rd_T37 x0 (rd x106005 (wrap64 (t107 - 1)))).f0) != 2)) else (none)) else (none)) else (none)) else (none))) else (some false)))) else (some false))) else (if x103000 = 1 then (if x103003.toList = ([] : List UInt8) then ((tree_Kind.f k x103001).bind fun t111 => (if t111 > 0 then ((x_attrs.f k x103002).bind fun t112 => (if t112 = true then (if (x1.length : Int) ≤ 200 then ((tree_nested.f k x0 x1 x103001).bind fun t113 => (some t113)) else (some false)) else (some false))) else (some false))) else (some false)) else (some false)))
end
def tree_fits.f (k : Nat) (l0 : List (S37)) (l1 : List Int) (a2 : Int) : Option (Bool) := if 0 ≤ a2 then (if a2 < (l0.length : Int) then (if ((rd_T37 l0 a2).f1).toList = ([] : List UInt8) then (tree_fits.j0 k l0 l1 a2 ((((rd_T37 l0 a2).f2).length : Int) == 0) ((rd_T37 l0 a2).f0) ((rd_T37 l0 a2).f1) ((rd_T37 l0 a2).f2) ((rd_T37 l0 a2).f3) ((rd_T37 l0 a2).f4) ((rd_T37 l0 a2).f5)) else (tree_fits.j0 k l0 l1 a2 false ((rd_T37 l0 a2).f0) ((rd_T37 l0 a2).f1) ((rd_T37 l0 a2).f2) ((rd_T37 l0 a2).f3) ((rd_T37 l0 a2).f4) ((rd_T37 l0 a2).f5))) else (none)) else (none)
theorem tree_fits.mono_l : ∀ k, (∀ y0 y1 y2 y3 y4 y5 y6 y7 y8 y9, LeO (tree_fits.j0 k y0 y1 y2 y3 y4 y5 y6 y7 y8 y9) (tree_fits.j0 (k + 1) y0 y1 y2 y3 y4 y5 y6 y7 y8 y9)) ∧ (∀ y0 y1 y2 y3 y4 y5 y6 y7 y8 y9 y10 y11 y12 y13 y14 y15 y16, LeO (tree_fits.j1 k y0 y1 y2 y3 y4 y5 y6 y7 y8 y9 y10 y11 y12 y13 y14 y15 y16) (tree_fits.j1 (k + 1) y0 y1 y2 y3 y4 y5 y6 y7 y8 y9 y10 y11 y12 y13 y14 y15 y16))
 | 0 => ⟨fun _ _ _ _ _ _ _ _ _ _ r h => by simp [tree_fits.j0] at h, fun _ _ _ _ _ _ _ _ _ _ _ _ _ _ _ _ _ r h => by simp [tree_fits.j1] at h⟩
 | k + 1 => by
  obtain ⟨ih0, ih1⟩ := tree_fits.mono_l k
  refine ⟨?_, ?_⟩
  ·intro y0 y1 y2 y3 y4 y5 y6 y7 y8 y9
   unfold tree_fits.j0
   repeat' first
   | (with_reducible exact ih0 _ _ _ _ _ _ _ _ _ _)
   | (with_reducible exact ih1 _ _ _ _ _ _ _ _ _ _ _ _ _ _ _ _ _)
   | (with_reducible exact slices_Index_int_int.mono _ _ _)
   | (with_reducible exact tree_Kind.mono _ _)
   | (with_reducible exact tree_nested.mono _ _ _ _)
   | (with_reducible exact x_attrs.mono _ _)
   | (with_reducible exact LeO.refl _)
   | (with_reducible exact LeO.none _)
   | (with_reducible refine LeO.ite ?_ ?_)
   | (with_reducible refine LeO.bind ?_ (fun _ => ?_))
   | exact ih0 _ _ _ _ _ _ _ _ _ _
   | exact ih1 _ _ _ _ _ _ _ _ _ _ _ _ _ _ _ _ _
   | exact slices_Index_int_int.mono _ _ _
   | exact tree_Kind.mono _ _
   | exact tree_nested.mono _ _ _ _
   | exact x_attrs.mono _ _
   | exact LeO.none _
   | refine LeO.ite ?_ ?_
   | refine LeO.bind ?_ (fun _ => ?_)
  ·intro y0 y1 y2 y3 y4 y5 y6 y7 y8 y9 y10 y11 y12 y13 y14 y15 y16
   unfold tree_fits.j1
   repeat' first
   | (with_reducible exact ih0 _ _ _ _ _ _ _ _ _ _)
   | (with_reducible exact ih1 _ _ _ _ _ _ _ _ _ _ _ _ _ _ _ _ _)
   | (with_reducible exact slices_Index_int_int.mono _ _ _)
   | (with_reducible exact tree_Kind.mono _ _)
   | (with_reducible exact tree_nested.mono _ _ _ _)
   | (with_reducible exact x_attrs.mono _ _)
   | (with_reducible exact LeO.refl _)
   | (with_reducible exact LeO.none _)
   | (with_reducible refine LeO.ite ?_ ?_)
   | (with_reducible refine LeO.bind ?_ (fun _ => ?_))
   | exact ih0 _ _ _ _ _ _ _ _ _ _
   | exact ih1 _ _ _ _ _ _ _ _ _ _ _ _ _ _ _ _ _
   | exact slices_Index_int_int.mono _ _ _
   | exact tree_Kind.mono _ _
   | exact tree_nested.mono _ _ _ _
   | exact x_attrs.mono _ _
   | exact LeO.none _
   | refine LeO.ite ?_ ?_
   | refine LeO.bind ?_ (fun _ => ?_)
theorem tree_fits.mono : ∀ a0 a1 a2 k, LeO (tree_fits.f k a0 a1 a2) (tree_fits.f (k + 1) a0 a1 a2) := by
 intro a0 a1 a2 k
 obtain ⟨ih0, ih1⟩ := tree_fits.mono_l k
 unfold tree_fits.f
 repeat' first
   | (with_reducible exact ih0 _ _ _ _ _ _ _ _ _ _)
   | (with_reducible exact ih1 _ _ _ _ _ _ _ _ _ _ _ _ _ _ _ _ _)
   | (with_reducible exact slices_Index_int_int.mono _ _ _)
   | (with_reducible exact tree_Kind.mono _ _)
   | (with_reducible exact tree_nested.mono _ _ _ _)
   | (with_reducible exact x_attrs.mono _ _)
   | (with_reducible exact LeO.refl _)
   | (with_reducible exact LeO.none _)
   | (with_reducible refine LeO.ite ?_ ?_)
   | (with_reducible refine LeO.bind ?_ (fun _ => ?_))
   | exact ih0 _ _ _ _ _ _ _ _ _ _
   | exact ih1 _ _ _ _ _ _ _ _ _ _ _ _ _ _ _ _ _
   | exact slices_Index_int_int.mono _ _ _
   | exact tree_Kind.mono _ _
   | exact tree_nested.mono _ _ _ _
   | exact x_attrs.mono _ _
   | exact LeO.none _
   | refine LeO.ite ?_ ?_
   | refine LeO.bind ?_ (fun _ => ?_)
set_option maxHeartbeats 80000000 in
set_option maxRecDepth 100000 in
theorem tree_fits.calls (k : Nat) (A0 : Option Addr) (c0 : Nat) (l0 : List (S37)) (A1 : Option Addr) (c1 : Nat) (l1 : List Int) (a2 : Int) (r : Bool) (w : World) (hr0 : Kd.C k37 w A0 l0.length l0) (hc0 : l0.length ≤ c0) (hr1 : Kd.C (Kd.int .i64) w A1 l1.length l1) (hc1 : l1.length ≤ c1) (h : tree_fits.f k l0 l1 a2 = some r) (hG1 : G1 w) :
  Calls Tryd.prog 56 #[.slice A0 l0.length c0, .slice A1 l1.length c1, .int .i64 a2] w fun e w' => e = .returned (.bool r) ∧ Below w.heap.size w w' := by
 have hu37 := Tryd.underlying37
 have HR0 := Aside0.mk hr0
 have HC0 := Aside0.mk hc0
 clear hr0 hc0
 have HR1 := Aside0.mk hr1
 have HC1 := Aside0.mk hc1
 clear hr1 hc1
 have HB := Aside0.mk (Below.refl w.heap.size w)
 have H : (if 0 ≤ a2 then (if a2 < (l0.length : Int) then (if ((rd_T37 l0 a2).f1).toList = ([] : List UInt8) then (tree_fits.j0 k l0 l1 a2 ((((rd_T37 l0 a2).f2).length : Int) == 0) ((rd_T37 l0 a2).f0) ((rd_T37 l0 a2).f1) ((rd_T37 l0 a2).f2) ((rd_T37 l0 a2).f3) ((rd_T37 l0 a2).f4) ((rd_T37 l0 a2).f5)) else (tree_fits.j0 k l0 l1 a2 false ((rd_T37 l0 a2).f0) ((rd_T37 l0 a2).f1) ((rd_T37 l0 a2).f2) ((rd_T37 l0 a2).f3) ((rd_T37 l0 a2).f4) ((rd_T37 l0 a2).f5))) else (none)) else (none)) = some r := h
 clear h
 by_cases c4 : 0 ≤ a2
 ·rw [if_pos c4] at H
  have c4b0 : decide (0 ≤ a2) = true := decide_eq_true c4
  clear c4
  by_cases c5 : a2 < (l0.length : Int)
  ·rw [if_pos c5] at H
   have c5b0 : decide (a2 < (l0.length : Int)) = true := decide_eq_true c5
   clear c5
   have HC6 := Aside0.mk H
   clear H
   have p101 : 0 ≤ (a2 : Int) := of_decide_eq_true (by first | (with_reducible assumption) | assumption)
   have q101 : a2 < (l0.length : Int) := of_decide_eq_true (by first | (with_reducible assumption) | assumption)
   obtain ⟨ad101, A101_2, c101_2, A101_5, c101_5, e101, hx101_0, hx101_1, hx101_2, hx101_3, hx101_4, hx101_5, hl101_2, hi101_2, hl101_5, hi101_5⟩ := at_T37 HR0.out a2 p101 q101
   cases e101
   have HR101_2 := Aside0.mk hi101_2
   have HC101_2 := Aside0.mk hl101_2
   clear hi101_2 hl101_2
   have HR101_5 := Aside0.mk hi101_5
   have HC101_5 := Aside0.mk hl101_5
   clear hi101_5 hl101_5
   replace p101 := eq_true p101
   replace q101 := eq_true q101
   go_enter Tryd.func56, Tryd.ntmps56
   go_upto_region 2 with (first | ((with_reducible refine gate_dst (N := 7) rfl ?_); (try (refine gate_guard (by rfl) ?_; dsimp only)); refine box_event ?hg (N := 7) ?hd (cs := #[.int .u8 0, .string (⟨#[]⟩ : ByteArray), .slice none 0 0, .string (⟨#[]⟩ : ByteArray), .int .i64 0, .slice none 0 0]) (t := 37) ?hr ?_; (case hd => rfl); (case hg => rfl); (case hr => first | (go_simp; done) | (go_simp; rfl)); intro gb102 hg w7 hbox hb; have n0_ := Aside0.mk (below_step (by repeat (first | (with_reducible first | exact HB.out | apply below_alloc | apply pw_below_drewN | apply below_drew1) | exact HB.out)) hb); have n1_ := Aside0.mk (hbox); have n2_ := Aside0.mk ((by rw [hg]; exact (below_size (by repeat (first | (with_reducible first | exact HB.out | apply below_alloc | apply pw_below_drewN | apply below_drew1) | exact HB.out))) : w.heap.size ≤ gb102)); have n3_ := Aside0.mk ((by rw [hg]; exact (below_size (by repeat (first | (with_reducible first | exact HB.out | apply below_alloc | apply pw_below_drewN | apply below_drew1) | exact HB.out))) : w.heap.size ≤ gb102)); clear HB; have HB := n0_; have BK102 := n1_; have GW102 := n2_; have GE102 := n3_; clear n0_ n1_ n2_ n3_; clear hb hbox hg; have hcz8_0 : w7.cell? ⟨gb102, 0, none⟩ = some (.int .u8 0) := (blk_cell BK102.out 0).trans rfl; have hcz8_1 : w7.cell? ⟨gb102, 1, none⟩ = some (.string (⟨#[]⟩ : ByteArray)) := (blk_cell BK102.out 1).trans rfl; have hcz8_2 : w7.cell? ⟨gb102, 2, none⟩ = some (.slice none 0 0) := (blk_cell BK102.out 2).trans rfl; have hcz8_3 : w7.cell? ⟨gb102, 3, none⟩ = some (.string (⟨#[]⟩ : ByteArray)) := (blk_cell BK102.out 3).trans rfl; have hcz8_4 : w7.cell? ⟨gb102, 4, none⟩ = some (.int .i64 0) := (blk_cell BK102.out 4).trans rfl; have hcz8_5 : w7.cell? ⟨gb102, 5, none⟩ = some (.slice none 0 0) := (blk_cell BK102.out 5).trans rfl; have hfz8_0 := blk_frozen BK102.out 0; have hfz8_1 := blk_frozen BK102.out 1; have hfz8_2 := blk_frozen BK102.out 2; have hfz8_3 := blk_frozen BK102.out 3; have hfz8_4 := blk_frozen BK102.out 4; have hfz8_5 := blk_frozen BK102.out 5))
   (try simp only [Act.put, List.setIfInBounds_toArray, List.set_cons_zero, List.set_cons_succ])
   go_cut [8] (fun v8 wc => ∃ (kq : Nat) (x8_5 : Bool), v8 = .bool x8_5 ∧ Aside0 (tree_fits.j0 kq l0 l1 a2 x8_5 ((rd_T37 l0 a2).f0) ((rd_T37 l0 a2).f1) ((rd_T37 l0 a2).f2) ((rd_T37 l0 a2).f3) ((rd_T37 l0 a2).f4) ((rd_T37 l0 a2).f5) = some r) ∧ Aside0 (kq ≤ k) ∧ Aside0 (wc.heap[gb102]? = some (.cells #[.int .u8 ((rd_T37 l0 a2).f0), .string ((rd_T37 l0 a2).f1), (.slice A101_2 ((rd_T37 l0 a2).f2).length c101_2), .string ((rd_T37 l0 a2).f3), .int .i64 ((rd_T37 l0 a2).f4), (.slice A101_5 ((rd_T37 l0 a2).f5).length c101_5)] 37 (0, 0))) ∧ Aside0 (Below w.heap.size w wc))
   case first =>
    have H := HC6.out
    clear HC6
    by_cases c9 : ((rd_T37 l0 a2).f1).toList = ([] : List UInt8)
    ·rw [if_pos c9] at H
     have c9b0 : (((rd_T37 l0 a2).f1).toList == ([] : List UInt8)) = true := beq_iff_eq.mpr c9
     have c9b1 : (((rd_T37 l0 a2).f1).toList != ([] : List UInt8)) = false := bne_eq_false_iff_eq.mpr c9
     clear c9
     (first | rw [c9b0] | (simp only [i64_w, i32_w]; rw [c9b0]) | skip)
     have H' := Aside0.mk H
     clear H
     have hcz10_0 : w7.cell? ⟨gb102, 0, none⟩ = some (.int .u8 0) := (blk_cell BK102.out 0).trans rfl
     have hcz10_1 : w7.cell? ⟨gb102, 1, none⟩ = some (.string (⟨#[]⟩ : ByteArray)) := (blk_cell BK102.out 1).trans rfl
     have hcz10_2 : w7.cell? ⟨gb102, 2, none⟩ = some (.slice none 0 0) := (blk_cell BK102.out 2).trans rfl
     have hcz10_3 : w7.cell? ⟨gb102, 3, none⟩ = some (.string (⟨#[]⟩ : ByteArray)) := (blk_cell BK102.out 3).trans rfl
     have hcz10_4 : w7.cell? ⟨gb102, 4, none⟩ = some (.int .i64 0) := (blk_cell BK102.out 4).trans rfl
     have hcz10_5 : w7.cell? ⟨gb102, 5, none⟩ = some (.slice none 0 0) := (blk_cell BK102.out 5).trans rfl
     have hfz10_0 := blk_frozen BK102.out 0
     have hfz10_1 := blk_frozen BK102.out 1
     have hfz10_2 := blk_frozen BK102.out 2
     have hfz10_3 := blk_frozen BK102.out 3
     have hfz10_4 := blk_frozen BK102.out 4
     have hfz10_5 := blk_frozen BK102.out 5
     go_wp2
     go_meet
     case rel => exact ⟨_, (((((rd_T37 l0 a2).f2).length : Int) == 0)), (by first | rfl | (simp; done) | (simp [*]; done) | (simp [bne, List.isEmpty_iff]; done) | (simp [bne, List.isEmpty_iff, *]; done) | (simp [bne]; rfl)), H', ⟨by first | omega | exact Nat.le_refl _⟩, ⟨by (with_reducible repeat (first | refine blk_drewN ?_ _ | refine blk_drew ?_ | refine blk_alloc ?_ _)); refine blk_put (cs := #[.int .u8 ((rd_T37 l0 a2).f0), .string ((rd_T37 l0 a2).f1), .slice A101_2 ((rd_T37 l0 a2).f2).length c101_2, .string ((rd_T37 l0 a2).f3), .int .i64 ((rd_T37 l0 a2).f4), .slice none 0 0]) ?_ 5 _ rfl; (with_reducible repeat (first | refine blk_drewN ?_ _ | refine blk_drew ?_ | refine blk_alloc ?_ _)); refine blk_put (cs := #[.int .u8 ((rd_T37 l0 a2).f0), .string ((rd_T37 l0 a2).f1), .slice A101_2 ((rd_T37 l0 a2).f2).length c101_2, .string ((rd_T37 l0 a2).f3), .int .i64 0, .slice none 0 0]) ?_ 4 _ rfl; (with_reducible repeat (first | refine blk_drewN ?_ _ | refine blk_drew ?_ | refine blk_alloc ?_ _)); refine blk_put (cs := #[.int .u8 ((rd_T37 l0 a2).f0), .string ((rd_T37 l0 a2).f1), .slice A101_2 ((rd_T37 l0 a2).f2).length c101_2, .string (⟨#[]⟩ : ByteArray), .int .i64 0, .slice none 0 0]) ?_ 3 _ rfl; (with_reducible repeat (first | refine blk_drewN ?_ _ | refine blk_drew ?_ | refine blk_alloc ?_ _)); refine blk_put (cs := #[.int .u8 ((rd_T37 l0 a2).f0), .string ((rd_T37 l0 a2).f1), .slice none 0 0, .string (⟨#[]⟩ : ByteArray), .int .i64 0, .slice none 0 0]) ?_ 2 _ rfl; (with_reducible repeat (first | refine blk_drewN ?_ _ | refine blk_drew ?_ | refine blk_alloc ?_ _)); refine blk_put (cs := #[.int .u8 ((rd_T37 l0 a2).f0), .string (⟨#[]⟩ : ByteArray), .slice none 0 0, .string (⟨#[]⟩ : ByteArray), .int .i64 0, .slice none 0 0]) ?_ 1 _ rfl; (with_reducible repeat (first | refine blk_drewN ?_ _ | refine blk_drew ?_ | refine blk_alloc ?_ _)); refine blk_put (cs := #[.int .u8 0, .string (⟨#[]⟩ : ByteArray), .slice none 0 0, .string (⟨#[]⟩ : ByteArray), .int .i64 0, .slice none 0 0]) ?_ 0 _ rfl; (with_reducible repeat (first | refine blk_drewN ?_ _ | refine blk_drew ?_ | refine blk_alloc ?_ _)); exact BK102.out⟩, ⟨by repeat (first | (with_reducible first | exact HB.out | apply below_alloc | apply pw_below_drewN | apply below_drew1 | refine below_set ?_ GE102.out) | exact HB.out)⟩⟩
    ·rw [if_neg c9] at H
     have c9b0 : (((rd_T37 l0 a2).f1).toList == ([] : List UInt8)) = false := beq_eq_false_iff_ne.mpr c9
     have c9b1 : (((rd_T37 l0 a2).f1).toList != ([] : List UInt8)) = true := bne_iff_ne.mpr c9
     (first | rw [c9b0] | (simp only [i64_w, i32_w]; rw [c9b0]) | skip)
     have H' := Aside0.mk H
     clear H
     have hcz11_0 : w7.cell? ⟨gb102, 0, none⟩ = some (.int .u8 0) := (blk_cell BK102.out 0).trans rfl
     have hcz11_1 : w7.cell? ⟨gb102, 1, none⟩ = some (.string (⟨#[]⟩ : ByteArray)) := (blk_cell BK102.out 1).trans rfl
     have hcz11_2 : w7.cell? ⟨gb102, 2, none⟩ = some (.slice none 0 0) := (blk_cell BK102.out 2).trans rfl
     have hcz11_3 : w7.cell? ⟨gb102, 3, none⟩ = some (.string (⟨#[]⟩ : ByteArray)) := (blk_cell BK102.out 3).trans rfl
     have hcz11_4 : w7.cell? ⟨gb102, 4, none⟩ = some (.int .i64 0) := (blk_cell BK102.out 4).trans rfl
     have hcz11_5 : w7.cell? ⟨gb102, 5, none⟩ = some (.slice none 0 0) := (blk_cell BK102.out 5).trans rfl
     have hfz11_0 := blk_frozen BK102.out 0
     have hfz11_1 := blk_frozen BK102.out 1
     have hfz11_2 := blk_frozen BK102.out 2
     have hfz11_3 := blk_frozen BK102.out 3
     have hfz11_4 := blk_frozen BK102.out 4
     have hfz11_5 := blk_frozen BK102.out 5
     go_wp2
     go_meet
     case rel => exact ⟨_, (false), (by first | rfl | (simp; done) | (simp [*]; done) | (simp [bne, List.isEmpty_iff]; done) | (simp [bne, List.isEmpty_iff, *]; done) | (simp [bne]; rfl)), H', ⟨by first | omega | exact Nat.le_refl _⟩, ⟨by (with_reducible repeat (first | refine blk_drewN ?_ _ | refine blk_drew ?_ | refine blk_alloc ?_ _)); refine blk_put (cs := #[.int .u8 ((rd_T37 l0 a2).f0), .string ((rd_T37 l0 a2).f1), .slice A101_2 ((rd_T37 l0 a2).f2).length c101_2, .string ((rd_T37 l0 a2).f3), .int .i64 ((rd_T37 l0 a2).f4), .slice none 0 0]) ?_ 5 _ rfl; (with_reducible repeat (first | refine blk_drewN ?_ _ | refine blk_drew ?_ | refine blk_alloc ?_ _)); refine blk_put (cs := #[.int .u8 ((rd_T37 l0 a2).f0), .string ((rd_T37 l0 a2).f1), .slice A101_2 ((rd_T37 l0 a2).f2).length c101_2, .string ((rd_T37 l0 a2).f3), .int .i64 0, .slice none 0 0]) ?_ 4 _ rfl; (with_reducible repeat (first | refine blk_drewN ?_ _ | refine blk_drew ?_ | refine blk_alloc ?_ _)); refine blk_put (cs := #[.int .u8 ((rd_T37 l0 a2).f0), .string ((rd_T37 l0 a2).f1), .slice A101_2 ((rd_T37 l0 a2).f2).length c101_2, .string (⟨#[]⟩ : ByteArray), .int .i64 0, .slice none 0 0]) ?_ 3 _ rfl; (with_reducible repeat (first | refine blk_drewN ?_ _ | refine blk_drew ?_ | refine blk_alloc ?_ _)); refine blk_put (cs := #[.int .u8 ((rd_T37 l0 a2).f0), .string ((rd_T37 l0 a2).f1), .slice none 0 0, .string (⟨#[]⟩ : ByteArray), .int .i64 0, .slice none 0 0]) ?_ 2 _ rfl; (with_reducible repeat (first | refine blk_drewN ?_ _ | refine blk_drew ?_ | refine blk_alloc ?_ _)); refine blk_put (cs := #[.int .u8 ((rd_T37 l0 a2).f0), .string (⟨#[]⟩ : ByteArray), .slice none 0 0, .string (⟨#[]⟩ : ByteArray), .int .i64 0, .slice none 0 0]) ?_ 1 _ rfl; (with_reducible repeat (first | refine blk_drewN ?_ _ | refine blk_drew ?_ | refine blk_alloc ?_ _)); refine blk_put (cs := #[.int .u8 0, .string (⟨#[]⟩ : ByteArray), .slice none 0 0, .string (⟨#[]⟩ : ByteArray), .int .i64 0, .slice none 0 0]) ?_ 0 _ rfl; (with_reducible repeat (first | refine blk_drewN ?_ _ | refine blk_drew ?_ | refine blk_alloc ?_ _)); exact BK102.out⟩, ⟨by repeat (first | (with_reducible first | exact HB.out | apply below_alloc | apply pw_below_drewN | apply below_drew1 | refine below_set ?_ GE102.out) | exact HB.out)⟩⟩
   case rest =>
    clear HC6
    try clear c1
    try clear p1
    try clear q1
    try clear hx1
    try clear p2
    try clear c4
    try clear c4b0
    try clear c5
    try clear c5b0
    try clear c9
    try clear c9b0
    try clear c9b1
    try clear c10
    try clear p10
    try clear q10
    try clear hx10
    try clear hcz10_0
    try clear hcz10_1
    try clear hcz10_2
    try clear hcz10_3
    try clear hcz10_4
    try clear hcz10_5
    try clear hcz11_0
    try clear hcz11_1
    try clear hcz11_2
    try clear hcz11_3
    try clear hcz11_4
    try clear hcz11_5
    try clear hcz8_0
    try clear hcz8_1
    try clear hcz8_2
    try clear hcz8_3
    try clear hcz8_4
    try clear hcz8_5
    try clear hfz10_0
    try clear hfz10_1
    try clear hfz10_2
    try clear hfz10_3
    try clear hfz10_4
    try clear hfz10_5
    try clear hfz11_0
    try clear hfz11_1
    try clear hfz11_2
    try clear hfz11_3
    try clear hfz11_4
    try clear hfz11_5
    try clear hfz8_0
    try clear hfz8_1
    try clear hfz8_2
    try clear hfz8_3
    try clear hfz8_4
    try clear hfz8_5
    try clear hx101_0
    try clear hx101_1
    try clear hx101_2
    try clear hx101_3
    try clear hx101_4
    try clear hx101_5
    try clear p101
    try clear q101
    obtain ⟨kq, x8_5, rfl, HA, HJ5, BK102, HB⟩ := hcut
    cases kq with
    | zero => exact absurd HA.out (by simp [tree_fits.j0])
    | succ kj5 =>
     have H := HA.out
     clear HA
     simp only [tree_fits.j0] at H
     by_cases c12 : a2 = 0
     ·rw [if_pos c12] at H
      have c12b0 : (a2 == 0) = true := beq_iff_eq.mpr c12
      have c12b1 : (a2 != 0) = false := bne_eq_false_iff_eq.mpr c12
      clear c12
      by_cases c13 : x8_5 = true
      ·subst c13
       have H1 : (some (((rd_T37 l0 a2).f3).toList == ([] : List UInt8))) = some r := by rw [if_pos rfl] at H; exact H
       clear H
       have H := H1
       clear H1
       obtain rfl := Option.some.inj H
       have hcz14_0 : wc.cell? ⟨gb102, 0, none⟩ = some (.int .u8 ((rd_T37 l0 a2).f0)) := (blk_cell BK102.out 0).trans rfl
       have hcz14_1 : wc.cell? ⟨gb102, 1, none⟩ = some (.string ((rd_T37 l0 a2).f1)) := (blk_cell BK102.out 1).trans rfl
       have hcz14_2 : wc.cell? ⟨gb102, 2, none⟩ = some (.slice A101_2 ((rd_T37 l0 a2).f2).length c101_2) := (blk_cell BK102.out 2).trans rfl
       have hcz14_3 : wc.cell? ⟨gb102, 3, none⟩ = some (.string ((rd_T37 l0 a2).f3)) := (blk_cell BK102.out 3).trans rfl
       have hcz14_4 : wc.cell? ⟨gb102, 4, none⟩ = some (.int .i64 ((rd_T37 l0 a2).f4)) := (blk_cell BK102.out 4).trans rfl
       have hcz14_5 : wc.cell? ⟨gb102, 5, none⟩ = some (.slice A101_5 ((rd_T37 l0 a2).f5).length c101_5) := (blk_cell BK102.out 5).trans rfl
       have hfz14_0 := blk_frozen BK102.out 0
       have hfz14_1 := blk_frozen BK102.out 1
       have hfz14_2 := blk_frozen BK102.out 2
       have hfz14_3 := blk_frozen BK102.out 3
       have hfz14_4 := blk_frozen BK102.out 4
       have hfz14_5 := blk_frozen BK102.out 5
       go_wp2
       go_ret
       exact ⟨by first | rfl | (simp [errW_none, errW_some] <;> rfl) | (simp [*, errW_none, errW_some] <;> rfl), by repeat (first | (with_reducible first | exact HB.out | apply below_alloc | apply pw_below_drewN | apply below_drew1 | refine below_set ?_ GE102.out) | exact HB.out)⟩
      ·replace c13 := Bool.eq_false_iff.mpr c13
       subst c13
       have H1 : (some false) = some r := by rw [if_neg (show ¬ (false = true) by decide)] at H; exact H
       clear H
       have H := H1
       clear H1
       obtain rfl := Option.some.inj H
       go_wp2
       go_ret
       exact ⟨by first | rfl | (simp [errW_none, errW_some] <;> rfl) | (simp [*, errW_none, errW_some] <;> rfl), by repeat (first | (with_reducible first | exact HB.out | apply below_alloc | apply pw_below_drewN | apply below_drew1 | refine below_set ?_ GE102.out) | exact HB.out)⟩
     ·rw [if_neg c12] at H
      have c12b0 : (a2 == 0) = false := beq_eq_false_iff_ne.mpr c12
      have c12b1 : (a2 != 0) = true := bne_iff_ne.mpr c12
      obtain ⟨ji15, hji15⟩ : ∃ j_ : Int, (wrap64 ((l1.length : Int) - 1)) = j_ := ⟨_, rfl⟩
      replace H : (if 0 ≤ (ji15) then (if (ji15) < (l1.length : Int) then (if 0 ≤ (rd l1 (ji15)) then (if (rd l1 (ji15)) < (l0.length : Int) then (if ((rd_T37 l0 (rd l1 (ji15))).f0) = 2 then (tree_fits.j1 kj5 l0 l1 a2 x8_5 true ((rd_T37 l0 a2).f0) ((rd_T37 l0 a2).f1) ((rd_T37 l0 a2).f2) ((rd_T37 l0 a2).f3) ((rd_T37 l0 a2).f4) ((rd_T37 l0 a2).f5) ((rd_T37 l0 (rd l1 (ji15))).f0) ((rd_T37 l0 (rd l1 (ji15))).f1) ((rd_T37 l0 (rd l1 (ji15))).f2) ((rd_T37 l0 (rd l1 (ji15))).f3) ((rd_T37 l0 (rd l1 (ji15))).f4) ((rd_T37 l0 (rd l1 (ji15))).f5)) else (if ((rd_T37 l0 (rd l1 (ji15))).f0) = 1 then ((tree_Kind.f kj5 ((rd_T37 l0 (rd l1 (ji15))).f1)).bind fun t106 => (tree_fits.j1 kj5 l0 l1 a2 x8_5 (decide (t106 ≥ 7)) ((rd_T37 l0 a2).f0) ((rd_T37 l0 a2).f1) ((rd_T37 l0 a2).f2) ((rd_T37 l0 a2).f3) ((rd_T37 l0 a2).f4) ((rd_T37 l0 a2).f5) ((rd_T37 l0 (rd l1 (ji15))).f0) ((rd_T37 l0 (rd l1 (ji15))).f1) ((rd_T37 l0 (rd l1 (ji15))).f2) ((rd_T37 l0 (rd l1 (ji15))).f3) ((rd_T37 l0 (rd l1 (ji15))).f4) ((rd_T37 l0 (rd l1 (ji15))).f5))) else (tree_fits.j1 kj5 l0 l1 a2 x8_5 false ((rd_T37 l0 a2).f0) ((rd_T37 l0 a2).f1) ((rd_T37 l0 a2).f2) ((rd_T37 l0 a2).f3) ((rd_T37 l0 a2).f4) ((rd_T37 l0 a2).f5) ((rd_T37 l0 (rd l1 (ji15))).f0) ((rd_T37 l0 (rd l1 (ji15))).f1) ((rd_T37 l0 (rd l1 (ji15))).f2) ((rd_T37 l0 (rd l1 (ji15))).f3) ((rd_T37 l0 (rd l1 (ji15))).f4) ((rd_T37 l0 (rd l1 (ji15))).f5)))) else (none)) else (none)) else (none)) else (none)) = some r := by first | (rw [hji15] at H; exact H) | (simp only [hji15] at H ⊢; exact H)
      have hji15w : (IntKind.i64.wrap ((l1.length : Int) - 1)) = ji15 := (i64_w _).trans hji15
      by_cases c16 : 0 ≤ (ji15)
      ·rw [if_pos c16] at H
       have c16b0 : decide (0 ≤ (ji15)) = true := decide_eq_true c16
       clear c16
       by_cases c17 : (ji15) < (l1.length : Int)
       ·rw [if_pos c17] at H
        have c17b0 : decide ((ji15) < (l1.length : Int)) = true := decide_eq_true c17
        clear c17
        by_cases c18 : 0 ≤ (rd l1 (ji15))
        ·rw [if_pos c18] at H
         have c18b0 : decide (0 ≤ (rd l1 (ji15))) = true := decide_eq_true c18
         clear c18
         by_cases c19 : (rd l1 (ji15)) < (l0.length : Int)
         ·rw [if_pos c19] at H
          have c19b0 : decide ((rd l1 (ji15)) < (l0.length : Int)) = true := decide_eq_true c19
          clear c19
          have HC20 := Aside0.mk H
          clear H
          have p103 : 0 ≤ ((ji15) : Int) := of_decide_eq_true (by first | (with_reducible assumption) | assumption)
          have q103 : (ji15) < (l1.length : Int) := of_decide_eq_true (by first | (with_reducible assumption) | assumption)
          obtain ⟨ad103, e103, hx103_0⟩ := Kd.at_int HR1.out (ji15) p103 q103
          cases e103
          replace hx103_0 := (HB.out.cell (World.block_lt_of_cell? w _ hx103_0)).trans hx103_0
          replace p103 := eq_true p103
          replace q103 := eq_true q103
          have p104 : 0 ≤ ((rd l1 (ji15)) : Int) := of_decide_eq_true (by first | (with_reducible assumption) | assumption)
          have q104 : (rd l1 (ji15)) < (l0.length : Int) := of_decide_eq_true (by first | (with_reducible assumption) | assumption)
          obtain ⟨ad104, A104_2, c104_2, A104_5, c104_5, e104, hx104_0, hx104_1, hx104_2, hx104_3, hx104_4, hx104_5, hl104_2, hi104_2, hl104_5, hi104_5⟩ := at_T37 HR0.out (rd l1 (ji15)) p104 q104
          obtain rfl : ad101 = ad104 := (by injection e104)
          replace hx104_0 := (HB.out.cell (World.block_lt_of_cell? w _ hx104_0)).trans hx104_0
          replace hx104_1 := (HB.out.cell (World.block_lt_of_cell? w _ hx104_1)).trans hx104_1
          replace hx104_2 := (HB.out.cell (World.block_lt_of_cell? w _ hx104_2)).trans hx104_2
          replace hx104_3 := (HB.out.cell (World.block_lt_of_cell? w _ hx104_3)).trans hx104_3
          replace hx104_4 := (HB.out.cell (World.block_lt_of_cell? w _ hx104_4)).trans hx104_4
          replace hx104_5 := (HB.out.cell (World.block_lt_of_cell? w _ hx104_5)).trans hx104_5
          have HR104_2 := Aside0.mk hi104_2
          have HC104_2 := Aside0.mk hl104_2
          clear hi104_2 hl104_2
          have HR104_5 := Aside0.mk hi104_5
          have HC104_5 := Aside0.mk hl104_5
          clear hi104_5 hl104_5
          replace p104 := eq_true p104
          replace q104 := eq_true q104
          go_upto_region 6 with (first | ((with_reducible refine gate_dst (N := 9) rfl ?_); (try (refine gate_guard (by rfl) ?_; dsimp only)); refine box_event ?hg (N := 9) ?hd (cs := #[.int .u8 0, .string (⟨#[]⟩ : ByteArray), .slice none 0 0, .string (⟨#[]⟩ : ByteArray), .int .i64 0, .slice none 0 0]) (t := 37) ?hr ?_; (case hd => rfl); (case hg => rfl); (case hr => first | (go_simp; done) | (go_simp; rfl)); intro gb105 hg w21 hbox hb; have n0_ := Aside0.mk (blk_below (g := gb102) (o := .cells #[.int .u8 ((rd_T37 l0 a2).f0), .string ((rd_T37 l0 a2).f1), .slice A101_2 ((rd_T37 l0 a2).f2).length c101_2, .string ((rd_T37 l0 a2).f3), .int .i64 ((rd_T37 l0 a2).f4), .slice A101_5 ((rd_T37 l0 a2).f5).length c101_5] 37 (0, 0)) (by (with_reducible repeat (first | refine blk_drewN ?_ _ | refine blk_drew ?_ | refine blk_alloc ?_ _)); exact BK102.out) hb); have n1_ := Aside0.mk (below_step (by repeat (first | (with_reducible first | exact HB.out | apply below_alloc | apply pw_below_drewN | apply below_drew1 | refine below_set ?_ GE102.out) | exact HB.out)) hb); have n2_ := Aside0.mk (hbox); have n3_ := Aside0.mk ((by rw [hg]; exact (below_size (by repeat (first | (with_reducible first | exact HB.out | apply below_alloc | apply pw_below_drewN | apply below_drew1 | refine below_set ?_ GE102.out) | exact HB.out))) : w.heap.size ≤ gb105)); have n4_ := Aside0.mk ((by rw [hg]; exact (below_size (by repeat (first | (with_reducible first | exact HB.out | apply below_alloc | apply pw_below_drewN | apply below_drew1 | refine below_set ?_ GE102.out) | exact HB.out))) : w.heap.size ≤ gb105)); have n5_ := Aside0.mk ((by rw [hg]; exact Nat.ne_of_lt (blk_lt (g := gb102) (o := .cells #[.int .u8 ((rd_T37 l0 a2).f0), .string ((rd_T37 l0 a2).f1), .slice A101_2 ((rd_T37 l0 a2).f2).length c101_2, .string ((rd_T37 l0 a2).f3), .int .i64 ((rd_T37 l0 a2).f4), .slice A101_5 ((rd_T37 l0 a2).f5).length c101_5] 37 (0, 0)) (by (with_reducible repeat (first | refine blk_drewN ?_ _ | refine blk_drew ?_ | refine blk_alloc ?_ _)); exact BK102.out)) : gb102 ≠ gb105)); have n6_ := Aside0.mk ((by rw [hg]; exact Nat.ne_of_gt (blk_lt (g := gb102) (o := .cells #[.int .u8 ((rd_T37 l0 a2).f0), .string ((rd_T37 l0 a2).f1), .slice A101_2 ((rd_T37 l0 a2).f2).length c101_2, .string ((rd_T37 l0 a2).f3), .int .i64 ((rd_T37 l0 a2).f4), .slice A101_5 ((rd_T37 l0 a2).f5).length c101_5] 37 (0, 0)) (by (with_reducible repeat (first | refine blk_drewN ?_ _ | refine blk_drew ?_ | refine blk_alloc ?_ _)); exact BK102.out)) : gb105 ≠ gb102)); clear BK102; clear HB; have BK102 := n0_; have HB := n1_; have BK105 := n2_; have GW105 := n3_; have GE105 := n4_; have NB102_105 := n5_; have NB105_102 := n6_; clear n0_ n1_ n2_ n3_ n4_ n5_ n6_; clear hb hbox hg; have hnb22 := NB105_102.out; have hnc22 := NB102_105.out; have hcz23_0 : w21.cell? ⟨gb105, 0, none⟩ = some (.int .u8 0) := (blk_cell BK105.out 0).trans rfl; have hcz23_1 : w21.cell? ⟨gb105, 1, none⟩ = some (.string (⟨#[]⟩ : ByteArray)) := (blk_cell BK105.out 1).trans rfl; have hcz23_2 : w21.cell? ⟨gb105, 2, none⟩ = some (.slice none 0 0) := (blk_cell BK105.out 2).trans rfl; have hcz23_3 : w21.cell? ⟨gb105, 3, none⟩ = some (.string (⟨#[]⟩ : ByteArray)) := (blk_cell BK105.out 3).trans rfl; have hcz23_4 : w21.cell? ⟨gb105, 4, none⟩ = some (.int .i64 0) := (blk_cell BK105.out 4).trans rfl; have hcz23_5 : w21.cell? ⟨gb105, 5, none⟩ = some (.slice none 0 0) := (blk_cell BK105.out 5).trans rfl; have hfz23_0 := blk_frozen BK105.out 0; have hfz23_1 := blk_frozen BK105.out 1; have hfz23_2 := blk_frozen BK105.out 2; have hfz23_3 := blk_frozen BK105.out 3; have hfz23_4 := blk_frozen BK105.out 4; have hfz23_5 := blk_frozen BK105.out 5))
          (try simp only [Act.put, List.setIfInBounds_toArray, List.set_cons_zero, List.set_cons_succ])
          go_cut [54] (fun v54 wc => ∃ (kq : Nat) (x54_19 : Bool), v54 = .bool x54_19 ∧ Aside0 (tree_fits.j1 kq l0 l1 a2 x8_5 x54_19 ((rd_T37 l0 a2).f0) ((rd_T37 l0 a2).f1) ((rd_T37 l0 a2).f2) ((rd_T37 l0 a2).f3) ((rd_T37 l0 a2).f4) ((rd_T37 l0 a2).f5) ((rd_T37 l0 (rd l1 (ji15))).f0) ((rd_T37 l0 (rd l1 (ji15))).f1) ((rd_T37 l0 (rd l1 (ji15))).f2) ((rd_T37 l0 (rd l1 (ji15))).f3) ((rd_T37 l0 (rd l1 (ji15))).f4) ((rd_T37 l0 (rd l1 (ji15))).f5) = some r) ∧ Aside0 (kq ≤ kj5) ∧ Aside0 (wc.heap[gb102]? = some (.cells #[.int .u8 ((rd_T37 l0 a2).f0), .string ((rd_T37 l0 a2).f1), (.slice A101_2 ((rd_T37 l0 a2).f2).length c101_2), .string ((rd_T37 l0 a2).f3), .int .i64 ((rd_T37 l0 a2).f4), (.slice A101_5 ((rd_T37 l0 a2).f5).length c101_5)] 37 (0, 0))) ∧ Aside0 (wc.heap[gb105]? = some (.cells #[.int .u8 ((rd_T37 l0 (rd l1 (ji15))).f0), .string ((rd_T37 l0 (rd l1 (ji15))).f1), (.slice A104_2 ((rd_T37 l0 (rd l1 (ji15))).f2).length c104_2), .string ((rd_T37 l0 (rd l1 (ji15))).f3), .int .i64 ((rd_T37 l0 (rd l1 (ji15))).f4), (.slice A104_5 ((rd_T37 l0 (rd l1 (ji15))).f5).length c104_5)] 37 (0, 0))) ∧ Aside0 (Below w.heap.size w wc))
          case first =>
           have H := HC20.out
           clear HC20
           by_cases c24 : ((rd_T37 l0 (rd l1 (ji15))).f0) = 2
           ·rw [if_pos c24] at H
            have c24b0 : (((rd_T37 l0 (rd l1 (ji15))).f0) == 2) = true := beq_iff_eq.mpr c24
            have c24b1 : (((rd_T37 l0 (rd l1 (ji15))).f0) != 2) = false := bne_eq_false_iff_eq.mpr c24
            clear c24
            (first | rw [c24b0] | (simp only [i64_w, i32_w]; rw [c24b0]) | skip)
            have H' := Aside0.mk H
            clear H
            have hnb25 := NB105_102.out
            have hnc25 := NB102_105.out
            have hcz26_0 : w21.cell? ⟨gb105, 0, none⟩ = some (.int .u8 0) := (blk_cell BK105.out 0).trans rfl
            have hcz26_1 : w21.cell? ⟨gb105, 1, none⟩ = some (.string (⟨#[]⟩ : ByteArray)) := (blk_cell BK105.out 1).trans rfl
            have hcz26_2 : w21.cell? ⟨gb105, 2, none⟩ = some (.slice none 0 0) := (blk_cell BK105.out 2).trans rfl
            have hcz26_3 : w21.cell? ⟨gb105, 3, none⟩ = some (.string (⟨#[]⟩ : ByteArray)) := (blk_cell BK105.out 3).trans rfl
            have hcz26_4 : w21.cell? ⟨gb105, 4, none⟩ = some (.int .i64 0) := (blk_cell BK105.out 4).trans rfl
            have hcz26_5 : w21.cell? ⟨gb105, 5, none⟩ = some (.slice none 0 0) := (blk_cell BK105.out 5).trans rfl
            have hfz26_0 := blk_frozen BK105.out 0
            have hfz26_1 := blk_frozen BK105.out 1
            have hfz26_2 := blk_frozen BK105.out 2
            have hfz26_3 := blk_frozen BK105.out 3
            have hfz26_4 := blk_frozen BK105.out 4
            have hfz26_5 := blk_frozen BK105.out 5
            go_wp2
            go_meet
            case rel => exact ⟨_, (true), (by first | rfl | (simp; done) | (simp [*]; done) | (simp [bne, List.isEmpty_iff]; done) | (simp [bne, List.isEmpty_iff, *]; done) | (simp [bne]; rfl)), H', ⟨by have := HJ5.out; first | omega | exact Nat.le_refl _⟩, ⟨by (with_reducible repeat (first | refine blk_drewN ?_ _ | refine blk_drew ?_ | refine blk_alloc ?_ _)); refine blk_far ?_ NB102_105.out _; (with_reducible repeat (first | refine blk_drewN ?_ _ | refine blk_drew ?_ | refine blk_alloc ?_ _)); refine blk_far ?_ NB102_105.out _; (with_reducible repeat (first | refine blk_drewN ?_ _ | refine blk_drew ?_ | refine blk_alloc ?_ _)); refine blk_far ?_ NB102_105.out _; (with_reducible repeat (first | refine blk_drewN ?_ _ | refine blk_drew ?_ | refine blk_alloc ?_ _)); refine blk_far ?_ NB102_105.out _; (with_reducible repeat (first | refine blk_drewN ?_ _ | refine blk_drew ?_ | refine blk_alloc ?_ _)); refine blk_far ?_ NB102_105.out _; (with_reducible repeat (first | refine blk_drewN ?_ _ | refine blk_drew ?_ | refine blk_alloc ?_ _)); refine blk_far ?_ NB102_105.out _; (with_reducible repeat (first | refine blk_drewN ?_ _ | refine blk_drew ?_ | refine blk_alloc ?_ _)); exact BK102.out⟩, ⟨by (with_reducible repeat (first | refine blk_drewN ?_ _ | refine blk_drew ?_ | refine blk_alloc ?_ _)); refine blk_put (cs := #[.int .u8 ((rd_T37 l0 (rd l1 (ji15))).f0), .string ((rd_T37 l0 (rd l1 (ji15))).f1), .slice A104_2 ((rd_T37 l0 (rd l1 (ji15))).f2).length c104_2, .string ((rd_T37 l0 (rd l1 (ji15))).f3), .int .i64 ((rd_T37 l0 (rd l1 (ji15))).f4), .slice none 0 0]) ?_ 5 _ rfl; (with_reducible repeat (first | refine blk_drewN ?_ _ | refine blk_drew ?_ | refine blk_alloc ?_ _)); refine blk_put (cs := #[.int .u8 ((rd_T37 l0 (rd l1 (ji15))).f0), .string ((rd_T37 l0 (rd l1 (ji15))).f1), .slice A104_2 ((rd_T37 l0 (rd l1 (ji15))).f2).length c104_2, .string ((rd_T37 l0 (rd l1 (ji15))).f3), .int .i64 0, .slice none 0 0]) ?_ 4 _ rfl; (with_reducible repeat (first | refine blk_drewN ?_ _ | refine blk_drew ?_ | refine blk_alloc ?_ _)); refine blk_put (cs := #[.int .u8 ((rd_T37 l0 (rd l1 (ji15))).f0), .string ((rd_T37 l0 (rd l1 (ji15))).f1), .slice A104_2 ((rd_T37 l0 (rd l1 (ji15))).f2).length c104_2, .string (⟨#[]⟩ : ByteArray), .int .i64 0, .slice none 0 0]) ?_ 3 _ rfl; (with_reducible repeat (first | refine blk_drewN ?_ _ | refine blk_drew ?_ | refine blk_alloc ?_ _)); refine blk_put (cs := #[.int .u8 ((rd_T37 l0 (rd l1 (ji15))).f0), .string ((rd_T37 l0 (rd l1 (ji15))).f1), .slice none 0 0, .string (⟨#[]⟩ : ByteArray), .int .i64 0, .slice none 0 0]) ?_ 2 _ rfl; (with_reducible repeat (first | refine blk_drewN ?_ _ | refine blk_drew ?_ | refine blk_alloc ?_ _)); refine blk_put (cs := #[.int .u8 ((rd_T37 l0 (rd l1 (ji15))).f0), .string (⟨#[]⟩ : ByteArray), .slice none 0 0, .string (⟨#[]⟩ : ByteArray), .int .i64 0, .slice none 0 0]) ?_ 1 _ rfl; (with_reducible repeat (first | refine blk_drewN ?_ _ | refine blk_drew ?_ | refine blk_alloc ?_ _)); refine blk_put (cs := #[.int .u8 0, .string (⟨#[]⟩ : ByteArray), .slice none 0 0, .string (⟨#[]⟩ : ByteArray), .int .i64 0, .slice none 0 0]) ?_ 0 _ rfl; (with_reducible repeat (first | refine blk_drewN ?_ _ | refine blk_drew ?_ | refine blk_alloc ?_ _)); exact BK105.out⟩, ⟨by repeat (first | (with_reducible first | exact HB.out | apply below_alloc | apply pw_below_drewN | apply below_drew1 | refine below_set ?_ GE102.out | refine below_set ?_ GE105.out) | exact HB.out)⟩⟩
           ·rw [if_neg c24] at H
            have c24b0 : (((rd_T37 l0 (rd l1 (ji15))).f0) == 2) = false := beq_eq_false_iff_ne.mpr c24
            have c24b1 : (((rd_T37 l0 (rd l1 (ji15))).f0) != 2) = true := bne_iff_ne.mpr c24
            (first | rw [c24b0] | (simp only [i64_w, i32_w]; rw [c24b0]) | skip)
            by_cases c27 : ((rd_T37 l0 (rd l1 (ji15))).f0) = 1
            ·rw [if_pos c27] at H
             have c27b0 : (((rd_T37 l0 (rd l1 (ji15))).f0) == 1) = true := beq_iff_eq.mpr c27
             have c27b1 : (((rd_T37 l0 (rd l1 (ji15))).f0) != 1) = false := bne_eq_false_iff_eq.mpr c27
             clear c27
             replace H := Option.bind_eq_some_iff.mp H
             obtain ⟨t106, A280, H⟩ := H
             replace H : (tree_fits.j1 kj5 l0 l1 a2 x8_5 (decide (t106 ≥ 7)) ((rd_T37 l0 a2).f0) ((rd_T37 l0 a2).f1) ((rd_T37 l0 a2).f2) ((rd_T37 l0 a2).f3) ((rd_T37 l0 a2).f4) ((rd_T37 l0 a2).f5) ((rd_T37 l0 (rd l1 (ji15))).f0) ((rd_T37 l0 (rd l1 (ji15))).f1) ((rd_T37 l0 (rd l1 (ji15))).f2) ((rd_T37 l0 (rd l1 (ji15))).f3) ((rd_T37 l0 (rd l1 (ji15))).f4) ((rd_T37 l0 (rd l1 (ji15))).f5)) = some r := H
             have A28 := Aside0.mk A280
             clear A280
             have H' := Aside0.mk H
             clear H
             have hnb29 := NB105_102.out
             have hnc29 := NB102_105.out
             have hcz30_0 : w21.cell? ⟨gb105, 0, none⟩ = some (.int .u8 0) := (blk_cell BK105.out 0).trans rfl
             have hcz30_1 : w21.cell? ⟨gb105, 1, none⟩ = some (.string (⟨#[]⟩ : ByteArray)) := (blk_cell BK105.out 1).trans rfl
             have hcz30_2 : w21.cell? ⟨gb105, 2, none⟩ = some (.slice none 0 0) := (blk_cell BK105.out 2).trans rfl
             have hcz30_3 : w21.cell? ⟨gb105, 3, none⟩ = some (.string (⟨#[]⟩ : ByteArray)) := (blk_cell BK105.out 3).trans rfl
             have hcz30_4 : w21.cell? ⟨gb105, 4, none⟩ = some (.int .i64 0) := (blk_cell BK105.out 4).trans rfl
             have hcz30_5 : w21.cell? ⟨gb105, 5, none⟩ = some (.slice none 0 0) := (blk_cell BK105.out 5).trans rfl
             have hfz30_0 := blk_frozen BK105.out 0
             have hfz30_1 := blk_frozen BK105.out 1
             have hfz30_2 := blk_frozen BK105.out 2
             have hfz30_3 := blk_frozen BK105.out 3
             have hfz30_4 := blk_frozen BK105.out 4
             have hfz30_5 := blk_frozen BK105.out 5
             go_wp2_with (first | (go_at_call 16; (with_reducible refine (tree_Kind.calls kj5 ((rd_T37 l0 (rd l1 (ji15))).f1) t106 _ A28.out).mono ?_); rintro e w' ⟨rfl, ⟨nd, rfl⟩⟩))
             go_meet
             case rel => exact ⟨_, (decide (t106 ≥ 7)), (by first | rfl | (simp; done) | (simp [*]; done) | (simp [bne, List.isEmpty_iff]; done) | (simp [bne, List.isEmpty_iff, *]; done) | (simp [bne]; rfl)), H', ⟨by have := HJ5.out; first | omega | exact Nat.le_refl _⟩, ⟨by (with_reducible repeat (first | refine blk_drewN ?_ _ | refine blk_drew ?_ | refine blk_alloc ?_ _)); refine blk_far ?_ NB102_105.out _; (with_reducible repeat (first | refine blk_drewN ?_ _ | refine blk_drew ?_ | refine blk_alloc ?_ _)); refine blk_far ?_ NB102_105.out _; (with_reducible repeat (first | refine blk_drewN ?_ _ | refine blk_drew ?_ | refine blk_alloc ?_ _)); refine blk_far ?_ NB102_105.out _; (with_reducible repeat (first | refine blk_drewN ?_ _ | refine blk_drew ?_ | refine blk_alloc ?_ _)); refine blk_far ?_ NB102_105.out _; (with_reducible repeat (first | refine blk_drewN ?_ _ | refine blk_drew ?_ | refine blk_alloc ?_ _)); refine blk_far ?_ NB102_105.out _; (with_reducible repeat (first | refine blk_drewN ?_ _ | refine blk_drew ?_ | refine blk_alloc ?_ _)); refine blk_far ?_ NB102_105.out _; (with_reducible repeat (first | refine blk_drewN ?_ _ | refine blk_drew ?_ | refine blk_alloc ?_ _)); exact BK102.out⟩, ⟨by (with_reducible repeat (first | refine blk_drewN ?_ _ | refine blk_drew ?_ | refine blk_alloc ?_ _)); refine blk_put (cs := #[.int .u8 ((rd_T37 l0 (rd l1 (ji15))).f0), .string ((rd_T37 l0 (rd l1 (ji15))).f1), .slice A104_2 ((rd_T37 l0 (rd l1 (ji15))).f2).length c104_2, .string ((rd_T37 l0 (rd l1 (ji15))).f3), .int .i64 ((rd_T37 l0 (rd l1 (ji15))).f4), .slice none 0 0]) ?_ 5 _ rfl; (with_reducible repeat (first | refine blk_drewN ?_ _ | refine blk_drew ?_ | refine blk_alloc ?_ _)); refine blk_put (cs := #[.int .u8 ((rd_T37 l0 (rd l1 (ji15))).f0), .string ((rd_T37 l0 (rd l1 (ji15))).f1), .slice A104_2 ((rd_T37 l0 (rd l1 (ji15))).f2).length c104_2, .string ((rd_T37 l0 (rd l1 (ji15))).f3), .int .i64 0, .slice none 0 0]) ?_ 4 _ rfl; (with_reducible repeat (first | refine blk_drewN ?_ _ | refine blk_drew ?_ | refine blk_alloc ?_ _)); refine blk_put (cs := #[.int .u8 ((rd_T37 l0 (rd l1 (ji15))).f0), .string ((rd_T37 l0 (rd l1 (ji15))).f1), .slice A104_2 ((rd_T37 l0 (rd l1 (ji15))).f2).length c104_2, .string (⟨#[]⟩ : ByteArray), .int .i64 0, .slice none 0 0]) ?_ 3 _ rfl; (with_reducible repeat (first | refine blk_drewN ?_ _ | refine blk_drew ?_ | refine blk_alloc ?_ _)); refine blk_put (cs := #[.int .u8 ((rd_T37 l0 (rd l1 (ji15))).f0), .string ((rd_T37 l0 (rd l1 (ji15))).f1), .slice none 0 0, .string (⟨#[]⟩ : ByteArray), .int .i64 0, .slice none 0 0]) ?_ 2 _ rfl; (with_reducible repeat (first | refine blk_drewN ?_ _ | refine blk_drew ?_ | refine blk_alloc ?_ _)); refine blk_put (cs := #[.int .u8 ((rd_T37 l0 (rd l1 (ji15))).f0), .string (⟨#[]⟩ : ByteArray), .slice none 0 0, .string (⟨#[]⟩ : ByteArray), .int .i64 0, .slice none 0 0]) ?_ 1 _ rfl; (with_reducible repeat (first | refine blk_drewN ?_ _ | refine blk_drew ?_ | refine blk_alloc ?_ _)); refine blk_put (cs := #[.int .u8 0, .string (⟨#[]⟩ : ByteArray), .slice none 0 0, .string (⟨#[]⟩ : ByteArray), .int .i64 0, .slice none 0 0]) ?_ 0 _ rfl; (with_reducible repeat (first | refine blk_drewN ?_ _ | refine blk_drew ?_ | refine blk_alloc ?_ _)); exact BK105.out⟩, ⟨by repeat (first | (with_reducible first | exact HB.out | apply below_alloc | apply pw_below_drewN | apply below_drew1 | refine below_set ?_ GE102.out | refine below_set ?_ GE105.out) | exact HB.out)⟩⟩
            ·rw [if_neg c27] at H
             have c27b0 : (((rd_T37 l0 (rd l1 (ji15))).f0) == 1) = false := beq_eq_false_iff_ne.mpr c27
             have c27b1 : (((rd_T37 l0 (rd l1 (ji15))).f0) != 1) = true := bne_iff_ne.mpr c27
             have H' := Aside0.mk H
             clear H
             have hnb31 := NB105_102.out
             have hnc31 := NB102_105.out
             have hcz32_0 : w21.cell? ⟨gb105, 0, none⟩ = some (.int .u8 0) := (blk_cell BK105.out 0).trans rfl
             have hcz32_1 : w21.cell? ⟨gb105, 1, none⟩ = some (.string (⟨#[]⟩ : ByteArray)) := (blk_cell BK105.out 1).trans rfl
             have hcz32_2 : w21.cell? ⟨gb105, 2, none⟩ = some (.slice none 0 0) := (blk_cell BK105.out 2).trans rfl
             have hcz32_3 : w21.cell? ⟨gb105, 3, none⟩ = some (.string (⟨#[]⟩ : ByteArray)) := (blk_cell BK105.out 3).trans rfl
             have hcz32_4 : w21.cell? ⟨gb105, 4, none⟩ = some (.int .i64 0) := (blk_cell BK105.out 4).trans rfl
             have hcz32_5 : w21.cell? ⟨gb105, 5, none⟩ = some (.slice none 0 0) := (blk_cell BK105.out 5).trans rfl
             have hfz32_0 := blk_frozen BK105.out 0
             have hfz32_1 := blk_frozen BK105.out 1
             have hfz32_2 := blk_frozen BK105.out 2
             have hfz32_3 := blk_frozen BK105.out 3
             have hfz32_4 := blk_frozen BK105.out 4
             have hfz32_5 := blk_frozen BK105.out 5
             go_wp2
             go_meet
             case rel => exact ⟨_, (false), (by first | rfl | (simp; done) | (simp [*]; done) | (simp [bne, List.isEmpty_iff]; done) | (simp [bne, List.isEmpty_iff, *]; done) | (simp [bne]; rfl)), H', ⟨by have := HJ5.out; first | omega | exact Nat.le_refl _⟩, ⟨by (with_reducible repeat (first | refine blk_drewN ?_ _ | refine blk_drew ?_ | refine blk_alloc ?_ _)); refine blk_far ?_ NB102_105.out _; (with_reducible repeat (first | refine blk_drewN ?_ _ | refine blk_drew ?_ | refine blk_alloc ?_ _)); refine blk_far ?_ NB102_105.out _; (with_reducible repeat (first | refine blk_drewN ?_ _ | refine blk_drew ?_ | refine blk_alloc ?_ _)); refine blk_far ?_ NB102_105.out _; (with_reducible repeat (first | refine blk_drewN ?_ _ | refine blk_drew ?_ | refine blk_alloc ?_ _)); refine blk_far ?_ NB102_105.out _; (with_reducible repeat (first | refine blk_drewN ?_ _ | refine blk_drew ?_ | refine blk_alloc ?_ _)); refine blk_far ?_ NB102_105.out _; (with_reducible repeat (first | refine blk_drewN ?_ _ | refine blk_drew ?_ | refine blk_alloc ?_ _)); refine blk_far ?_ NB102_105.out _; (with_reducible repeat (first | refine blk_drewN ?_ _ | refine blk_drew ?_ | refine blk_alloc ?_ _)); exact BK102.out⟩, ⟨by (with_reducible repeat (first | refine blk_drewN ?_ _ | refine blk_drew ?_ | refine blk_alloc ?_ _)); refine blk_put (cs := #[.int .u8 ((rd_T37 l0 (rd l1 (ji15))).f0), .string ((rd_T37 l0 (rd l1 (ji15))).f1), .slice A104_2 ((rd_T37 l0 (rd l1 (ji15))).f2).length c104_2, .string ((rd_T37 l0 (rd l1 (ji15))).f3), .int .i64 ((rd_T37 l0 (rd l1 (ji15))).f4), .slice none 0 0]) ?_ 5 _ rfl; (with_reducible repeat (first | refine blk_drewN ?_ _ | refine blk_drew ?_ | refine blk_alloc ?_ _)); refine blk_put (cs := #[.int .u8 ((rd_T37 l0 (rd l1 (ji15))).f0), .string ((rd_T37 l0 (rd l1 (ji15))).f1), .slice A104_2 ((rd_T37 l0 (rd l1 (ji15))).f2).length c104_2, .string ((rd_T37 l0 (rd l1 (ji15))).f3), .int .i64 0, .slice none 0 0]) ?_ 4 _ rfl; (with_reducible repeat (first | refine blk_drewN ?_ _ | refine blk_drew ?_ | refine blk_alloc ?_ _)); refine blk_put (cs := #[.int .u8 ((rd_T37 l0 (rd l1 (ji15))).f0), .string ((rd_T37 l0 (rd l1 (ji15))).f1), .slice A104_2 ((rd_T37 l0 (rd l1 (ji15))).f2).length c104_2, .string (⟨#[]⟩ : ByteArray), .int .i64 0, .slice none 0 0]) ?_ 3 _ rfl; (with_reducible repeat (first | refine blk_drewN ?_ _ | refine blk_drew ?_ | refine blk_alloc ?_ _)); refine blk_put (cs := #[.int .u8 ((rd_T37 l0 (rd l1 (ji15))).f0), .string ((rd_T37 l0 (rd l1 (ji15))).f1), .slice none 0 0, .string (⟨#[]⟩ : ByteArray), .int .i64 0, .slice none 0 0]) ?_ 2 _ rfl; (with_reducible repeat (first | refine blk_drewN ?_ _ | refine blk_drew ?_ | refine blk_alloc ?_ _)); refine blk_put (cs := #[.int .u8 ((rd_T37 l0 (rd l1 (ji15))).f0), .string (⟨#[]⟩ : ByteArray), .slice none 0 0, .string (⟨#[]⟩ : ByteArray), .int .i64 0, .slice none 0 0]) ?_ 1 _ rfl; (with_reducible repeat (first | refine blk_drewN ?_ _ | refine blk_drew ?_ | refine blk_alloc ?_ _)); refine blk_put (cs := #[.int .u8 0, .string (⟨#[]⟩ : ByteArray), .slice none 0 0, .string (⟨#[]⟩ : ByteArray), .int .i64 0, .slice none 0 0]) ?_ 0 _ rfl; (with_reducible repeat (first | refine blk_drewN ?_ _ | refine blk_drew ?_ | refine blk_alloc ?_ _)); exact BK105.out⟩, ⟨by repeat (first | (with_reducible first | exact HB.out | apply below_alloc | apply pw_below_drewN | apply below_drew1 | refine below_set ?_ GE102.out | refine below_set ?_ GE105.out) | exact HB.out)⟩⟩
          case rest =>
           clear HC20
           try clear c1
           try clear p1
           try clear q1
           try clear hx1
           try clear c2
           try clear p2
           try clear c3
           try clear c4
           try clear c4b0
           try clear c5
           try clear c5b0
           try clear p6
           try clear c9
           try clear c9b0
           try clear c9b1
           try clear c10
           try clear p10
           try clear q10
           try clear hx10
           try clear c12
           try clear c12b0
           try clear c12b1
           try clear c13
           try clear c16
           try clear c16b0
           try clear c17
           try clear c17b0
           try clear c18
           try clear c18b0
           try clear c19
           try clear c19b0
           try clear c22
           try clear c24
           try clear c24b0
           try clear c24b1
           try clear c25
           try clear c27
           try clear c27b0
           try clear c27b1
           try clear c29
           try clear c31
           try clear hcz10_0
           try clear hcz10_1
           try clear hcz10_2
           try clear hcz10_3
           try clear hcz10_4
           try clear hcz10_5
           try clear hcz11_0
           try clear hcz11_1
           try clear hcz11_2
           try clear hcz11_3
           try clear hcz11_4
           try clear hcz11_5
           try clear hcz14_0
           try clear hcz14_1
           try clear hcz14_2
           try clear hcz14_3
           try clear hcz14_4
           try clear hcz14_5
           try clear hcz23_0
           try clear hcz23_1
           try clear hcz23_2
           try clear hcz23_3
           try clear hcz23_4
           try clear hcz23_5
           try clear hcz26_0
           try clear hcz26_1
           try clear hcz26_2
           try clear hcz26_3
           try clear hcz26_4
           try clear hcz26_5
           try clear hcz30_0
           try clear hcz30_1
           try clear hcz30_2
           try clear hcz30_3
           try clear hcz30_4
           try clear hcz30_5
           try clear hcz32_0
           try clear hcz32_1
           try clear hcz32_2
           try clear hcz32_3
           try clear hcz32_4
           try clear hcz32_5
           try clear hcz8_0
           try clear hcz8_1
           try clear hcz8_2
           try clear hcz8_3
           try clear hcz8_4
           try clear hcz8_5
           try clear hfz10_0
           try clear hfz10_1
           try clear hfz10_2
           try clear hfz10_3
           try clear hfz10_4
           try clear hfz10_5
           try clear hfz11_0
           try clear hfz11_1
           try clear hfz11_2
           try clear hfz11_3
           try clear hfz11_4
           try clear hfz11_5
           try clear hfz14_0
           try clear hfz14_1
           try clear hfz14_2
           try clear hfz14_3
           try clear hfz14_4
           try clear hfz14_5
           try clear hfz23_0
           try clear hfz23_1
           try clear hfz23_2
           try clear hfz23_3
           try clear hfz23_4
           try clear hfz23_5
           try clear hfz26_0
           try clear hfz26_1
           try clear hfz26_2
           try clear hfz26_3
           try clear hfz26_4
           try clear hfz26_5
           try clear hfz30_0
           try clear hfz30_1
           try clear hfz30_2
           try clear hfz30_3
           try clear hfz30_4
           try clear hfz30_5
           try clear hfz32_0
           try clear hfz32_1
           try clear hfz32_2
           try clear hfz32_3
           try clear hfz32_4
           try clear hfz32_5
           try clear hfz8_0
           try clear hfz8_1
           try clear hfz8_2
           try clear hfz8_3
           try clear hfz8_4
           try clear hfz8_5
           try clear hx101_0
           try clear hx101_1
           try clear hx101_2
           try clear hx101_3
           try clear hx101_4
           try clear hx101_5
           try clear hx103_0
           try clear hx104_0
           try clear hx104_1
           try clear hx104_2
           try clear hx104_3
           try clear hx104_4
           try clear hx104_5
           try clear p1
           try clear p10
           try clear p101
           try clear p103
           try clear p104
           try clear p2
           try clear q1
           try clear q10
           try clear q101
           try clear q103
           try clear q104
           obtain ⟨kq, x54_19, rfl, HA, HJ19, BK102, BK105, HB⟩ := hcut
           cases kq with
           | zero => exact absurd HA.out (by simp [tree_fits.j1])
           | succ kj19 =>
            have H := HA.out
            clear HA
            simp only [tree_fits.j1] at H
            by_cases c33 : x54_19 = true
            ·subst c33
             have H1 : (some false) = some r := by rw [if_pos rfl] at H; exact H
             clear H
             have H := H1
             clear H1
             obtain rfl := Option.some.inj H
             go_wp2
             go_ret
             exact ⟨by first | rfl | (simp [errW_none, errW_some] <;> rfl) | (simp only [← hji15]; first | rfl | (simp [errW_none, errW_some] <;> rfl)) | (simp [*, errW_none, errW_some] <;> rfl), by repeat (first | (with_reducible first | exact HB.out | apply below_alloc | apply pw_below_drewN | apply below_drew1 | refine below_set ?_ GE102.out | refine below_set ?_ GE105.out) | exact HB.out)⟩
            ·replace c33 := Bool.eq_false_iff.mpr c33
             subst c33
             have H1 : (if ((rd_T37 l0 a2).f0) = 2 then ((slices_Index_int_int.f kj19 ((rd_T37 l0 (rd l1 (ji15))).f5) a2).bind fun t107 => (if x8_5 = true then (if ((rd_T37 l0 a2).f3).toList = ([] : List UInt8) then (some false) else ((tree_well.f ((rd_T37 l0 a2).f3)).bind fun t108 => (if t108 = true then (if t107 < 1 then (some true) else (if 0 ≤ (wrap64 (t107 - 1)) then (if (wrap64 (t107 - 1)) < (((rd_T37 l0 (rd l1 (ji15))).f5).length : Int) then (if 0 ≤ (rd ((rd_T37 l0 (rd l1 (ji15))).f5) (wrap64 (t107 - 1))) then (if (rd ((rd_T37 l0 (rd l1 (ji15))).f5) (wrap64 (t107 - 1))) < (l0.length : Int) then (some (((rd_T37 l0 (rd ((rd_T37 l0 (rd l1 (ji15))).f5) (wrap64 (t107 - 1)))).f0) != 2)) else (none)) else (none)) else (none)) else (none))) else (some false)))) else (some false))) else (if ((rd_T37 l0 a2).f0) = 1 then (if ((rd_T37 l0 a2).f3).toList = ([] : List UInt8) then ((tree_Kind.f kj19 ((rd_T37 l0 a2).f1)).bind fun t111 => (if t111 > 0 then ((x_attrs.f kj19 ((rd_T37 l0 a2).f2)).bind fun t112 => (if t112 = true then (if (l1.length : Int) ≤ 200 then ((tree_nested.f kj19 l0 l1 ((rd_T37 l0 a2).f1)).bind fun t113 => (some t113)) else (some false)) else (some false))) else (some false))) else (some false)) else (some false))) = some r := by rw [if_neg (show ¬ (false = true) by decide)] at H; exact H
             clear H
             have H := H1
             clear H1
             by_cases c34 : ((rd_T37 l0 a2).f0) = 2
             ·rw [if_pos c34] at H
              have c34b0 : (((rd_T37 l0 a2).f0) == 2) = true := beq_iff_eq.mpr c34
              have c34b1 : (((rd_T37 l0 a2).f0) != 2) = false := bne_eq_false_iff_eq.mpr c34
              clear c34
              replace H := Option.bind_eq_some_iff.mp H
              obtain ⟨t107, A350, H⟩ := H
              replace H : (if x8_5 = true then (if ((rd_T37 l0 a2).f3).toList = ([] : List UInt8) then (some false) else ((tree_well.f ((rd_T37 l0 a2).f3)).bind fun t108 => (if t108 = true then (if t107 < 1 then (some true) else (if 0 ≤ (wrap64 (t107 - 1)) then (if (wrap64 (t107 - 1)) < (((rd_T37 l0 (rd l1 (ji15))).f5).length : Int) then (if 0 ≤ (rd ((rd_T37 l0 (rd l1 (ji15))).f5) (wrap64 (t107 - 1))) then (if (rd ((rd_T37 l0 (rd l1 (ji15))).f5) (wrap64 (t107 - 1))) < (l0.length : Int) then (some (((rd_T37 l0 (rd ((rd_T37 l0 (rd l1 (ji15))).f5) (wrap64 (t107 - 1)))).f0) != 2)) else (none)) else (none)) else (none)) else (none))) else (some false)))) else (some false)) = some r := H
              have A35 := Aside0.mk A350
              clear A350
              by_cases c36 : x8_5 = true
              ·subst c36
               have H1 : (if ((rd_T37 l0 a2).f3).toList = ([] : List UInt8) then (some false) else ((tree_well.f ((rd_T37 l0 a2).f3)).bind fun t108 => (if t108 = true then (if t107 < 1 then (some true) else (if 0 ≤ (wrap64 (t107 - 1)) then (if (wrap64 (t107 - 1)) < (((rd_T37 l0 (rd l1 (ji15))).f5).length : Int) then (if 0 ≤ (rd ((rd_T37 l0 (rd l1 (ji15))).f5) (wrap64 (t107 - 1))) then (if (rd ((rd_T37 l0 (rd l1 (ji15))).f5) (wrap64 (t107 - 1))) < (l0.length : Int) then (some (((rd_T37 l0 (rd ((rd_T37 l0 (rd l1 (ji15))).f5) (wrap64 (t107 - 1)))).f0) != 2)) else (none)) else (none)) else (none)) else (none))) else (some false)))) = some r := by rw [if_pos rfl] at H; exact H
               clear H
               have H := H1
               clear H1
               by_cases c37 : ((rd_T37 l0 a2).f3).toList = ([] : List UInt8)
               ·rw [if_pos c37] at H
                have c37b0 : (((rd_T37 l0 a2).f3).toList == ([] : List UInt8)) = true := beq_iff_eq.mpr c37
                have c37b1 : (((rd_T37 l0 a2).f3).toList != ([] : List UInt8)) = false := bne_eq_false_iff_eq.mpr c37
                clear c37
                obtain rfl := Option.some.inj H
                have hnb38 := NB102_105.out
                have hnc38 := NB105_102.out
                have hcz39_0 : wc.cell? ⟨gb102, 0, none⟩ = some (.int .u8 ((rd_T37 l0 a2).f0)) := (blk_cell BK102.out 0).trans rfl
                have hcz39_1 : wc.cell? ⟨gb102, 1, none⟩ = some (.string ((rd_T37 l0 a2).f1)) := (blk_cell BK102.out 1).trans rfl
                have hcz39_2 : wc.cell? ⟨gb102, 2, none⟩ = some (.slice A101_2 ((rd_T37 l0 a2).f2).length c101_2) := (blk_cell BK102.out 2).trans rfl
                have hcz39_3 : wc.cell? ⟨gb102, 3, none⟩ = some (.string ((rd_T37 l0 a2).f3)) := (blk_cell BK102.out 3).trans rfl
                have hcz39_4 : wc.cell? ⟨gb102, 4, none⟩ = some (.int .i64 ((rd_T37 l0 a2).f4)) := (blk_cell BK102.out 4).trans rfl
                have hcz39_5 : wc.cell? ⟨gb102, 5, none⟩ = some (.slice A101_5 ((rd_T37 l0 a2).f5).length c101_5) := (blk_cell BK102.out 5).trans rfl
                have hfz39_0 := blk_frozen BK102.out 0
                have hfz39_1 := blk_frozen BK102.out 1
                have hfz39_2 := blk_frozen BK102.out 2
                have hfz39_3 := blk_frozen BK102.out 3
                have hfz39_4 := blk_frozen BK102.out 4
                have hfz39_5 := blk_frozen BK102.out 5
                have hcz40_0 : wc.cell? ⟨gb105, 0, none⟩ = some (.int .u8 ((rd_T37 l0 (rd l1 (ji15))).f0)) := (blk_cell BK105.out 0).trans rfl
                have hcz40_1 : wc.cell? ⟨gb105, 1, none⟩ = some (.string ((rd_T37 l0 (rd l1 (ji15))).f1)) := (blk_cell BK105.out 1).trans rfl
                have hcz40_2 : wc.cell? ⟨gb105, 2, none⟩ = some (.slice A104_2 ((rd_T37 l0 (rd l1 (ji15))).f2).length c104_2) := (blk_cell BK105.out 2).trans rfl
                have hcz40_3 : wc.cell? ⟨gb105, 3, none⟩ = some (.string ((rd_T37 l0 (rd l1 (ji15))).f3)) := (blk_cell BK105.out 3).trans rfl
                have hcz40_4 : wc.cell? ⟨gb105, 4, none⟩ = some (.int .i64 ((rd_T37 l0 (rd l1 (ji15))).f4)) := (blk_cell BK105.out 4).trans rfl
                have hcz40_5 : wc.cell? ⟨gb105, 5, none⟩ = some (.slice A104_5 ((rd_T37 l0 (rd l1 (ji15))).f5).length c104_5) := (blk_cell BK105.out 5).trans rfl
                have hfz40_0 := blk_frozen BK105.out 0
                have hfz40_1 := blk_frozen BK105.out 1
                have hfz40_2 := blk_frozen BK105.out 2
                have hfz40_3 := blk_frozen BK105.out 3
                have hfz40_4 := blk_frozen BK105.out 4
                have hfz40_5 := blk_frozen BK105.out 5
                go_wp2_with (first | ((with_reducible refine gate_callee (f := 81) rfl ?_); refine goesL_ (some 62) rfl rfl Tryd.func81 (by kernel_rfl) rfl #[.slice A104_5 ((rd_T37 l0 (rd l1 (ji15))).f5).length c104_5, .int .i64 a2] rfl (by (try simp only [List.map_toArray, List.map_cons, List.map_nil]); first | done | rfl | (simp only [List.length_drop, List.length_take]; rfl)) ?_; (with_reducible refine (slices_Index_int_int.calls kj19 _ _ ((rd_T37 l0 (rd l1 (ji15))).f5) a2 t107 _ ?side1 ?side2 A35.out).mono ?_); (case side1 => repeat (first | exact (Kd.C_below HR104_5.out HB.out) | (with_reducible refine Kd.C_alloc ?_ _) | (with_reducible refine Kd.C_drewN ?_ _) | (with_reducible refine Kd.C_drew ?_))); (case side2 => exact HC104_5.out); rintro e w' ⟨rfl, ⟨nd, rfl⟩⟩; refine ⟨_, rfl, ?_⟩))
                go_ret
                exact ⟨by first | rfl | (simp [errW_none, errW_some] <;> rfl) | (simp only [← hji15]; first | rfl | (simp [errW_none, errW_some] <;> rfl)) | (simp [*, errW_none, errW_some] <;> rfl), by repeat (first | (with_reducible first | exact HB.out | apply below_alloc | apply pw_below_drewN | apply below_drew1 | refine below_set ?_ GE102.out | refine below_set ?_ GE105.out) | exact HB.out)⟩
               ·rw [if_neg c37] at H
                have c37b0 : (((rd_T37 l0 a2).f3).toList == ([] : List UInt8)) = false := beq_eq_false_iff_ne.mpr c37
                have c37b1 : (((rd_T37 l0 a2).f3).toList != ([] : List UInt8)) = true := bne_iff_ne.mpr c37
                replace H := Option.bind_eq_some_iff.mp H
                obtain ⟨t108, A410, H⟩ := H
                replace H : (if t108 = true then (if t107 < 1 then (some true) else (if 0 ≤ (wrap64 (t107 - 1)) then (if (wrap64 (t107 - 1)) < (((rd_T37 l0 (rd l1 (ji15))).f5).length : Int) then (if 0 ≤ (rd ((rd_T37 l0 (rd l1 (ji15))).f5) (wrap64 (t107 - 1))) then (if (rd ((rd_T37 l0 (rd l1 (ji15))).f5) (wrap64 (t107 - 1))) < (l0.length : Int) then (some (((rd_T37 l0 (rd ((rd_T37 l0 (rd l1 (ji15))).f5) (wrap64 (t107 - 1)))).f0) != 2)) else (none)) else (none)) else (none)) else (none))) else (some false)) = some r := H
                have A41 := Aside0.mk A410
                clear A410
                by_cases c42 : t108 = true
                ·subst c42
                 have H1 : (if t107 < 1 then (some true) else (if 0 ≤ (wrap64 (t107 - 1)) then (if (wrap64 (t107 - 1)) < (((rd_T37 l0 (rd l1 (ji15))).f5).length : Int) then (if 0 ≤ (rd ((rd_T37 l0 (rd l1 (ji15))).f5) (wrap64 (t107 - 1))) then (if (rd ((rd_T37 l0 (rd l1 (ji15))).f5) (wrap64 (t107 - 1))) < (l0.length : Int) then (some (((rd_T37 l0 (rd ((rd_T37 l0 (rd l1 (ji15))).f5) (wrap64 (t107 - 1)))).f0) != 2)) else (none)) else (none)) else (none)) else (none))) = some r := by rw [if_pos rfl] at H; exact H
                 clear H
                 have H := H1
                 clear H1
                 by_cases c43 : t107 < 1
                 ·rw [if_pos c43] at H
                  have c43b0 : decide (t107 < 1) = true := decide_eq_true c43
                  clear c43
                  obtain rfl := Option.some.inj H
                  have hnb44 := NB102_105.out
                  have hnc44 := NB105_102.out
                  have hcz45_0 : wc.cell? ⟨gb102, 0, none⟩ = some (.int .u8 ((rd_T37 l0 a2).f0)) := (blk_cell BK102.out 0).trans rfl
                  have hcz45_1 : wc.cell? ⟨gb102, 1, none⟩ = some (.string ((rd_T37 l0 a2).f1)) := (blk_cell BK102.out 1).trans rfl
                  have hcz45_2 : wc.cell? ⟨gb102, 2, none⟩ = some (.slice A101_2 ((rd_T37 l0 a2).f2).length c101_2) := (blk_cell BK102.out 2).trans rfl
                  have hcz45_3 : wc.cell? ⟨gb102, 3, none⟩ = some (.string ((rd_T37 l0 a2).f3)) := (blk_cell BK102.out 3).trans rfl
                  have hcz45_4 : wc.cell? ⟨gb102, 4, none⟩ = some (.int .i64 ((rd_T37 l0 a2).f4)) := (blk_cell BK102.out 4).trans rfl
                  have hcz45_5 : wc.cell? ⟨gb102, 5, none⟩ = some (.slice A101_5 ((rd_T37 l0 a2).f5).length c101_5) := (blk_cell BK102.out 5).trans rfl
                  have hfz45_0 := blk_frozen BK102.out 0
                  have hfz45_1 := blk_frozen BK102.out 1
                  have hfz45_2 := blk_frozen BK102.out 2
                  have hfz45_3 := blk_frozen BK102.out 3
                  have hfz45_4 := blk_frozen BK102.out 4
                  have hfz45_5 := blk_frozen BK102.out 5
                  have hcz46_0 : wc.cell? ⟨gb105, 0, none⟩ = some (.int .u8 ((rd_T37 l0 (rd l1 (ji15))).f0)) := (blk_cell BK105.out 0).trans rfl
                  have hcz46_1 : wc.cell? ⟨gb105, 1, none⟩ = some (.string ((rd_T37 l0 (rd l1 (ji15))).f1)) := (blk_cell BK105.out 1).trans rfl
                  have hcz46_2 : wc.cell? ⟨gb105, 2, none⟩ = some (.slice A104_2 ((rd_T37 l0 (rd l1 (ji15))).f2).length c104_2) := (blk_cell BK105.out 2).trans rfl
                  have hcz46_3 : wc.cell? ⟨gb105, 3, none⟩ = some (.string ((rd_T37 l0 (rd l1 (ji15))).f3)) := (blk_cell BK105.out 3).trans rfl
                  have hcz46_4 : wc.cell? ⟨gb105, 4, none⟩ = some (.int .i64 ((rd_T37 l0 (rd l1 (ji15))).f4)) := (blk_cell BK105.out 4).trans rfl
                  have hcz46_5 : wc.cell? ⟨gb105, 5, none⟩ = some (.slice A104_5 ((rd_T37 l0 (rd l1 (ji15))).f5).length c104_5) := (blk_cell BK105.out 5).trans rfl
                  have hfz46_0 := blk_frozen BK105.out 0
                  have hfz46_1 := blk_frozen BK105.out 1
                  have hfz46_2 := blk_frozen BK105.out 2
                  have hfz46_3 := blk_frozen BK105.out 3
                  have hfz46_4 := blk_frozen BK105.out 4
                  have hfz46_5 := blk_frozen BK105.out 5
                  go_wp2_with (first | ((with_reducible refine gate_callee (f := 81) rfl ?_); refine goesL_ (some 62) rfl rfl Tryd.func81 (by kernel_rfl) rfl #[.slice A104_5 ((rd_T37 l0 (rd l1 (ji15))).f5).length c104_5, .int .i64 a2] rfl (by (try simp only [List.map_toArray, List.map_cons, List.map_nil]); first | done | rfl | (simp only [List.length_drop, List.length_take]; rfl)) ?_; (with_reducible refine (slices_Index_int_int.calls kj19 _ _ ((rd_T37 l0 (rd l1 (ji15))).f5) a2 t107 _ ?side1 ?side2 A35.out).mono ?_); (case side1 => repeat (first | exact (Kd.C_below HR104_5.out HB.out) | (with_reducible refine Kd.C_alloc ?_ _) | (with_reducible refine Kd.C_drewN ?_ _) | (with_reducible refine Kd.C_drew ?_))); (case side2 => exact HC104_5.out); rintro e w' ⟨rfl, ⟨nd, rfl⟩⟩; refine ⟨_, rfl, ?_⟩) | (go_at_call 82; (with_reducible refine (tree_well.calls ((rd_T37 l0 a2).f3) true _ A41.out (by first | exact hG1 | exact G1.below hG1 (by assumption) | exact G1.below hG1 HB.out | (apply G1.below hG1; repeat (first | (with_reducible first | exact HB.out | apply below_alloc | apply pw_below_drewN | apply below_drew1 | exact Below.refl _ _) | exact HB.out | exact Below.refl _ _)) | (have hd_ := ‹Aside0 (Drawn0 _ _)›.out.below; exact G1.below hG1 hd_))).mono ?_); rintro e w47 ⟨rfl, hb⟩; have n0_ := Aside0.mk (blk_below (g := gb102) (o := .cells #[.int .u8 ((rd_T37 l0 a2).f0), .string ((rd_T37 l0 a2).f1), .slice A101_2 ((rd_T37 l0 a2).f2).length c101_2, .string ((rd_T37 l0 a2).f3), .int .i64 ((rd_T37 l0 a2).f4), .slice A101_5 ((rd_T37 l0 a2).f5).length c101_5] 37 (0, 0)) (by (with_reducible repeat (first | refine blk_drewN ?_ _ | refine blk_drew ?_ | refine blk_alloc ?_ _)); exact BK102.out) hb); have n1_ := Aside0.mk (blk_below (g := gb105) (o := .cells #[.int .u8 ((rd_T37 l0 (rd l1 (ji15))).f0), .string ((rd_T37 l0 (rd l1 (ji15))).f1), .slice A104_2 ((rd_T37 l0 (rd l1 (ji15))).f2).length c104_2, .string ((rd_T37 l0 (rd l1 (ji15))).f3), .int .i64 ((rd_T37 l0 (rd l1 (ji15))).f4), .slice A104_5 ((rd_T37 l0 (rd l1 (ji15))).f5).length c104_5] 37 (0, 0)) (by (with_reducible repeat (first | refine blk_drewN ?_ _ | refine blk_drew ?_ | refine blk_alloc ?_ _)); exact BK105.out) hb); have n2_ := Aside0.mk (below_step (by repeat (first | (with_reducible first | exact HB.out | apply below_alloc | apply pw_below_drewN | apply below_drew1 | refine below_set ?_ GE102.out | refine below_set ?_ GE105.out) | exact HB.out)) hb); clear BK102; clear BK105; clear HB; have BK102 := n0_; have BK105 := n1_; have HB := n2_; clear n0_ n1_ n2_; (try clear hb); (try clear hb2); (try clear hk); (try clear hi)))
                  go_ret
                  exact ⟨by first | rfl | (simp [errW_none, errW_some] <;> rfl) | (simp only [← hji15]; first | rfl | (simp [errW_none, errW_some] <;> rfl)) | (simp [*, errW_none, errW_some] <;> rfl), by repeat (first | (with_reducible first | exact HB.out | apply below_alloc | apply pw_below_drewN | apply below_drew1 | refine below_set ?_ GE102.out | refine below_set ?_ GE105.out) | exact HB.out)⟩
                 ·rw [if_neg c43] at H
                  have c43b0 : decide (t107 < 1) = false := decide_eq_false c43
                  clear c43
                  obtain ⟨ji48, hji48⟩ : ∃ j_ : Int, (wrap64 (t107 - 1)) = j_ := ⟨_, rfl⟩
                  replace H : (if 0 ≤ (ji48) then (if (ji48) < (((rd_T37 l0 (rd l1 (ji15))).f5).length : Int) then (if 0 ≤ (rd ((rd_T37 l0 (rd l1 (ji15))).f5) (ji48)) then (if (rd ((rd_T37 l0 (rd l1 (ji15))).f5) (ji48)) < (l0.length : Int) then (some (((rd_T37 l0 (rd ((rd_T37 l0 (rd l1 (ji15))).f5) (ji48))).f0) != 2)) else (none)) else (none)) else (none)) else (none)) = some r := by first | (rw [hji48] at H; exact H) | (simp only [hji48] at H ⊢; exact H)
                  (try rw [hji48] at A35)
                  (try rw [hji48] at A41)
                  have hji48w : (IntKind.i64.wrap (t107 - 1)) = ji48 := (i64_w _).trans hji48
                  by_cases c49 : 0 ≤ (ji48)
                  ·rw [if_pos c49] at H
                   have c49b0 : decide (0 ≤ (ji48)) = true := decide_eq_true c49
                   clear c49
                   by_cases c50 : (ji48) < (((rd_T37 l0 (rd l1 (ji15))).f5).length : Int)
                   ·rw [if_pos c50] at H
                    have c50b0 : decide ((ji48) < (((rd_T37 l0 (rd l1 (ji15))).f5).length : Int)) = true := decide_eq_true c50
                    clear c50
                    by_cases c51 : 0 ≤ (rd ((rd_T37 l0 (rd l1 (ji15))).f5) (ji48))
                    ·rw [if_pos c51] at H
                     have c51b0 : decide (0 ≤ (rd ((rd_T37 l0 (rd l1 (ji15))).f5) (ji48))) = true := decide_eq_true c51
                     clear c51
                     by_cases c52 : (rd ((rd_T37 l0 (rd l1 (ji15))).f5) (ji48)) < (l0.length : Int)
                     ·rw [if_pos c52] at H
                      have c52b0 : decide ((rd ((rd_T37 l0 (rd l1 (ji15))).f5) (ji48)) < (l0.length : Int)) = true := decide_eq_true c52
                      clear c52
                      obtain rfl := Option.some.inj H
                      have hnb53 := NB102_105.out
                      have hnc53 := NB105_102.out
                      have hcz54_0 : wc.cell? ⟨gb102, 0, none⟩ = some (.int .u8 ((rd_T37 l0 a2).f0)) := (blk_cell BK102.out 0).trans rfl
                      have hcz54_1 : wc.cell? ⟨gb102, 1, none⟩ = some (.string ((rd_T37 l0 a2).f1)) := (blk_cell BK102.out 1).trans rfl
                      have hcz54_2 : wc.cell? ⟨gb102, 2, none⟩ = some (.slice A101_2 ((rd_T37 l0 a2).f2).length c101_2) := (blk_cell BK102.out 2).trans rfl
                      have hcz54_3 : wc.cell? ⟨gb102, 3, none⟩ = some (.string ((rd_T37 l0 a2).f3)) := (blk_cell BK102.out 3).trans rfl
                      have hcz54_4 : wc.cell? ⟨gb102, 4, none⟩ = some (.int .i64 ((rd_T37 l0 a2).f4)) := (blk_cell BK102.out 4).trans rfl
                      have hcz54_5 : wc.cell? ⟨gb102, 5, none⟩ = some (.slice A101_5 ((rd_T37 l0 a2).f5).length c101_5) := (blk_cell BK102.out 5).trans rfl
                      have hfz54_0 := blk_frozen BK102.out 0
                      have hfz54_1 := blk_frozen BK102.out 1
                      have hfz54_2 := blk_frozen BK102.out 2
                      have hfz54_3 := blk_frozen BK102.out 3
                      have hfz54_4 := blk_frozen BK102.out 4
                      have hfz54_5 := blk_frozen BK102.out 5
                      have hcz55_0 : wc.cell? ⟨gb105, 0, none⟩ = some (.int .u8 ((rd_T37 l0 (rd l1 (ji15))).f0)) := (blk_cell BK105.out 0).trans rfl
                      have hcz55_1 : wc.cell? ⟨gb105, 1, none⟩ = some (.string ((rd_T37 l0 (rd l1 (ji15))).f1)) := (blk_cell BK105.out 1).trans rfl
                      have hcz55_2 : wc.cell? ⟨gb105, 2, none⟩ = some (.slice A104_2 ((rd_T37 l0 (rd l1 (ji15))).f2).length c104_2) := (blk_cell BK105.out 2).trans rfl
                      have hcz55_3 : wc.cell? ⟨gb105, 3, none⟩ = some (.string ((rd_T37 l0 (rd l1 (ji15))).f3)) := (blk_cell BK105.out 3).trans rfl
                      have hcz55_4 : wc.cell? ⟨gb105, 4, none⟩ = some (.int .i64 ((rd_T37 l0 (rd l1 (ji15))).f4)) := (blk_cell BK105.out 4).trans rfl
                      have hcz55_5 : wc.cell? ⟨gb105, 5, none⟩ = some (.slice A104_5 ((rd_T37 l0 (rd l1 (ji15))).f5).length c104_5) := (blk_cell BK105.out 5).trans rfl
                      have hfz55_0 := blk_frozen BK105.out 0
                      have hfz55_1 := blk_frozen BK105.out 1
                      have hfz55_2 := blk_frozen BK105.out 2
                      have hfz55_3 := blk_frozen BK105.out 3
                      have hfz55_4 := blk_frozen BK105.out 4
                      have hfz55_5 := blk_frozen BK105.out 5
                      go_wp2_with (first | ((with_reducible refine gate_callee (f := 81) rfl ?_); refine goesL_ (some 62) rfl rfl Tryd.func81 (by kernel_rfl) rfl #[.slice A104_5 ((rd_T37 l0 (rd l1 (ji15))).f5).length c104_5, .int .i64 a2] rfl (by (try simp only [List.map_toArray, List.map_cons, List.map_nil]); first | done | rfl | (simp only [List.length_drop, List.length_take]; rfl)) ?_; (with_reducible refine (slices_Index_int_int.calls kj19 _ _ ((rd_T37 l0 (rd l1 (ji15))).f5) a2 t107 _ ?side1 ?side2 A35.out).mono ?_); (case side1 => repeat (first | exact (Kd.C_below HR104_5.out HB.out) | (with_reducible refine Kd.C_alloc ?_ _) | (with_reducible refine Kd.C_drewN ?_ _) | (with_reducible refine Kd.C_drew ?_))); (case side2 => exact HC104_5.out); rintro e w' ⟨rfl, ⟨nd, rfl⟩⟩; refine ⟨_, rfl, ?_⟩) | (go_at_call 82; (with_reducible refine (tree_well.calls ((rd_T37 l0 a2).f3) true _ A41.out (by first | exact hG1 | exact G1.below hG1 (by assumption) | exact G1.below hG1 HB.out | (apply G1.below hG1; repeat (first | (with_reducible first | exact HB.out | apply below_alloc | apply pw_below_drewN | apply below_drew1 | exact Below.refl _ _) | exact HB.out | exact Below.refl _ _)) | (have hd_ := ‹Aside0 (Drawn0 _ _)›.out.below; exact G1.below hG1 hd_))).mono ?_); rintro e w56 ⟨rfl, hb⟩; have n0_ := Aside0.mk (blk_below (g := gb102) (o := .cells #[.int .u8 ((rd_T37 l0 a2).f0), .string ((rd_T37 l0 a2).f1), .slice A101_2 ((rd_T37 l0 a2).f2).length c101_2, .string ((rd_T37 l0 a2).f3), .int .i64 ((rd_T37 l0 a2).f4), .slice A101_5 ((rd_T37 l0 a2).f5).length c101_5] 37 (0, 0)) (by (with_reducible repeat (first | refine blk_drewN ?_ _ | refine blk_drew ?_ | refine blk_alloc ?_ _)); exact BK102.out) hb); have n1_ := Aside0.mk (blk_below (g := gb105) (o := .cells #[.int .u8 ((rd_T37 l0 (rd l1 (ji15))).f0), .string ((rd_T37 l0 (rd l1 (ji15))).f1), .slice A104_2 ((rd_T37 l0 (rd l1 (ji15))).f2).length c104_2, .string ((rd_T37 l0 (rd l1 (ji15))).f3), .int .i64 ((rd_T37 l0 (rd l1 (ji15))).f4), .slice A104_5 ((rd_T37 l0 (rd l1 (ji15))).f5).length c104_5] 37 (0, 0)) (by (with_reducible repeat (first | refine blk_drewN ?_ _ | refine blk_drew ?_ | refine blk_alloc ?_ _)); exact BK105.out) hb); have n2_ := Aside0.mk (below_step (by repeat (first | (with_reducible first | exact HB.out | apply below_alloc | apply pw_below_drewN | apply below_drew1 | refine below_set ?_ GE102.out | refine below_set ?_ GE105.out) | exact HB.out)) hb); clear BK102; clear BK105; clear HB; have BK102 := n0_; have BK105 := n1_; have HB := n2_; clear n0_ n1_ n2_; (try clear hb); (try clear hb2); (try clear hk); (try clear hi); have hcz57_0 : w56.cell? ⟨gb105, 0, none⟩ = some (.int .u8 ((rd_T37 l0 (rd l1 (ji15))).f0)) := (blk_cell BK105.out 0).trans rfl; have hcz57_1 : w56.cell? ⟨gb105, 1, none⟩ = some (.string ((rd_T37 l0 (rd l1 (ji15))).f1)) := (blk_cell BK105.out 1).trans rfl; have hcz57_2 : w56.cell? ⟨gb105, 2, none⟩ = some (.slice A104_2 ((rd_T37 l0 (rd l1 (ji15))).f2).length c104_2) := (blk_cell BK105.out 2).trans rfl; have hcz57_3 : w56.cell? ⟨gb105, 3, none⟩ = some (.string ((rd_T37 l0 (rd l1 (ji15))).f3)) := (blk_cell BK105.out 3).trans rfl; have hcz57_4 : w56.cell? ⟨gb105, 4, none⟩ = some (.int .i64 ((rd_T37 l0 (rd l1 (ji15))).f4)) := (blk_cell BK105.out 4).trans rfl; have hcz57_5 : w56.cell? ⟨gb105, 5, none⟩ = some (.slice A104_5 ((rd_T37 l0 (rd l1 (ji15))).f5).length c104_5) := (blk_cell BK105.out 5).trans rfl; have hfz57_0 := blk_frozen BK105.out 0; have hfz57_1 := blk_frozen BK105.out 1; have hfz57_2 := blk_frozen BK105.out 2; have hfz57_3 := blk_frozen BK105.out 3; have hfz57_4 := blk_frozen BK105.out 4; have hfz57_5 := blk_frozen BK105.out 5; have p109 : 0 ≤ ((ji48) : Int) := of_decide_eq_true (by first | (with_reducible assumption) | assumption); have q109 : (ji48) < (((rd_T37 l0 (rd l1 (ji15))).f5).length : Int) := of_decide_eq_true (by first | (with_reducible assumption) | assumption); obtain ⟨ad109, e109, hx109_0⟩ := Kd.at_int HR104_5.out (ji48) p109 q109; cases e109; replace hx109_0 := (HB.out.cell (World.block_lt_of_cell? w _ hx109_0)).trans hx109_0; replace p109 := eq_true p109; replace q109 := eq_true q109; have p110 : 0 ≤ ((rd ((rd_T37 l0 (rd l1 (ji15))).f5) (ji48)) : Int) := of_decide_eq_true (by first | (with_reducible assumption) | assumption); have q110 : (rd ((rd_T37 l0 (rd l1 (ji15))).f5) (ji48)) < (l0.length : Int) := of_decide_eq_true (by first | (with_reducible assumption) | assumption); obtain ⟨ad110, A110_2, c110_2, A110_5, c110_5, e110, hx110_0, hx110_1, hx110_2, hx110_3, hx110_4, hx110_5, hl110_2, hi110_2, hl110_5, hi110_5⟩ := at_T37 HR0.out (rd ((rd_T37 l0 (rd l1 (ji15))).f5) (ji48)) p110 q110; obtain rfl : ad101 = ad110 := (by injection e110); replace hx110_0 := (HB.out.cell (World.block_lt_of_cell? w _ hx110_0)).trans hx110_0; replace hx110_1 := (HB.out.cell (World.block_lt_of_cell? w _ hx110_1)).trans hx110_1; replace hx110_2 := (HB.out.cell (World.block_lt_of_cell? w _ hx110_2)).trans hx110_2; replace hx110_3 := (HB.out.cell (World.block_lt_of_cell? w _ hx110_3)).trans hx110_3; replace hx110_4 := (HB.out.cell (World.block_lt_of_cell? w _ hx110_4)).trans hx110_4; replace hx110_5 := (HB.out.cell (World.block_lt_of_cell? w _ hx110_5)).trans hx110_5; have HR110_2 := Aside0.mk hi110_2; have HC110_2 := Aside0.mk hl110_2; clear hi110_2 hl110_2; have HR110_5 := Aside0.mk hi110_5; have HC110_5 := Aside0.mk hl110_5; clear hi110_5 hl110_5; replace p110 := eq_true p110; replace q110 := eq_true q110))
                      go_ret
                      exact ⟨by first | rfl | (simp [errW_none, errW_some] <;> rfl) | (simp only [← hji15, ← hji48]; first | rfl | (simp [errW_none, errW_some] <;> rfl)) | (simp [*, errW_none, errW_some] <;> rfl), by repeat (first | (with_reducible first | exact HB.out | apply below_alloc | apply pw_below_drewN | apply below_drew1 | refine below_set ?_ GE102.out | refine below_set ?_ GE105.out) | exact HB.out)⟩
                     ·rw [if_neg c52] at H
                      exact absurd H (by simp)
                    ·rw [if_neg c51] at H
                     exact absurd H (by simp)
                   ·rw [if_neg c50] at H
                    exact absurd H (by simp)
                  ·rw [if_neg c49] at H
                   exact absurd H (by simp)
                ·replace c42 := Bool.eq_false_iff.mpr c42
                 subst c42
                 have H1 : (some false) = some r := by rw [if_neg (show ¬ (false = true) by decide)] at H; exact H
                 clear H
                 have H := H1
                 clear H1
                 obtain rfl := Option.some.inj H
                 have hnb58 := NB102_105.out
                 have hnc58 := NB105_102.out
                 have hcz59_0 : wc.cell? ⟨gb102, 0, none⟩ = some (.int .u8 ((rd_T37 l0 a2).f0)) := (blk_cell BK102.out 0).trans rfl
                 have hcz59_1 : wc.cell? ⟨gb102, 1, none⟩ = some (.string ((rd_T37 l0 a2).f1)) := (blk_cell BK102.out 1).trans rfl
                 have hcz59_2 : wc.cell? ⟨gb102, 2, none⟩ = some (.slice A101_2 ((rd_T37 l0 a2).f2).length c101_2) := (blk_cell BK102.out 2).trans rfl
                 have hcz59_3 : wc.cell? ⟨gb102, 3, none⟩ = some (.string ((rd_T37 l0 a2).f3)) := (blk_cell BK102.out 3).trans rfl
                 have hcz59_4 : wc.cell? ⟨gb102, 4, none⟩ = some (.int .i64 ((rd_T37 l0 a2).f4)) := (blk_cell BK102.out 4).trans rfl
                 have hcz59_5 : wc.cell? ⟨gb102, 5, none⟩ = some (.slice A101_5 ((rd_T37 l0 a2).f5).length c101_5) := (blk_cell BK102.out 5).trans rfl
                 have hfz59_0 := blk_frozen BK102.out 0
                 have hfz59_1 := blk_frozen BK102.out 1
                 have hfz59_2 := blk_frozen BK102.out 2
                 have hfz59_3 := blk_frozen BK102.out 3
                 have hfz59_4 := blk_frozen BK102.out 4
                 have hfz59_5 := blk_frozen BK102.out 5
                 have hcz60_0 : wc.cell? ⟨gb105, 0, none⟩ = some (.int .u8 ((rd_T37 l0 (rd l1 (ji15))).f0)) := (blk_cell BK105.out 0).trans rfl
                 have hcz60_1 : wc.cell? ⟨gb105, 1, none⟩ = some (.string ((rd_T37 l0 (rd l1 (ji15))).f1)) := (blk_cell BK105.out 1).trans rfl
                 have hcz60_2 : wc.cell? ⟨gb105, 2, none⟩ = some (.slice A104_2 ((rd_T37 l0 (rd l1 (ji15))).f2).length c104_2) := (blk_cell BK105.out 2).trans rfl
                 have hcz60_3 : wc.cell? ⟨gb105, 3, none⟩ = some (.string ((rd_T37 l0 (rd l1 (ji15))).f3)) := (blk_cell BK105.out 3).trans rfl
                 have hcz60_4 : wc.cell? ⟨gb105, 4, none⟩ = some (.int .i64 ((rd_T37 l0 (rd l1 (ji15))).f4)) := (blk_cell BK105.out 4).trans rfl
                 have hcz60_5 : wc.cell? ⟨gb105, 5, none⟩ = some (.slice A104_5 ((rd_T37 l0 (rd l1 (ji15))).f5).length c104_5) := (blk_cell BK105.out 5).trans rfl
                 have hfz60_0 := blk_frozen BK105.out 0
                 have hfz60_1 := blk_frozen BK105.out 1
                 have hfz60_2 := blk_frozen BK105.out 2
                 have hfz60_3 := blk_frozen BK105.out 3
                 have hfz60_4 := blk_frozen BK105.out 4
                 have hfz60_5 := blk_frozen BK105.out 5
                 go_wp2_with (first | ((with_reducible refine gate_callee (f := 81) rfl ?_); refine goesL_ (some 62) rfl rfl Tryd.func81 (by kernel_rfl) rfl #[.slice A104_5 ((rd_T37 l0 (rd l1 (ji15))).f5).length c104_5, .int .i64 a2] rfl (by (try simp only [List.map_toArray, List.map_cons, List.map_nil]); first | done | rfl | (simp only [List.length_drop, List.length_take]; rfl)) ?_; (with_reducible refine (slices_Index_int_int.calls kj19 _ _ ((rd_T37 l0 (rd l1 (ji15))).f5) a2 t107 _ ?side1 ?side2 A35.out).mono ?_); (case side1 => repeat (first | exact (Kd.C_below HR104_5.out HB.out) | (with_reducible refine Kd.C_alloc ?_ _) | (with_reducible refine Kd.C_drewN ?_ _) | (with_reducible refine Kd.C_drew ?_))); (case side2 => exact HC104_5.out); rintro e w' ⟨rfl, ⟨nd, rfl⟩⟩; refine ⟨_, rfl, ?_⟩) | (go_at_call 82; (with_reducible refine (tree_well.calls ((rd_T37 l0 a2).f3) false _ A41.out (by first | exact hG1 | exact G1.below hG1 (by assumption) | exact G1.below hG1 HB.out | (apply G1.below hG1; repeat (first | (with_reducible first | exact HB.out | apply below_alloc | apply pw_below_drewN | apply below_drew1 | exact Below.refl _ _) | exact HB.out | exact Below.refl _ _)) | (have hd_ := ‹Aside0 (Drawn0 _ _)›.out.below; exact G1.below hG1 hd_))).mono ?_); rintro e w61 ⟨rfl, hb⟩; have n0_ := Aside0.mk (blk_below (g := gb102) (o := .cells #[.int .u8 ((rd_T37 l0 a2).f0), .string ((rd_T37 l0 a2).f1), .slice A101_2 ((rd_T37 l0 a2).f2).length c101_2, .string ((rd_T37 l0 a2).f3), .int .i64 ((rd_T37 l0 a2).f4), .slice A101_5 ((rd_T37 l0 a2).f5).length c101_5] 37 (0, 0)) (by (with_reducible repeat (first | refine blk_drewN ?_ _ | refine blk_drew ?_ | refine blk_alloc ?_ _)); exact BK102.out) hb); have n1_ := Aside0.mk (blk_below (g := gb105) (o := .cells #[.int .u8 ((rd_T37 l0 (rd l1 (ji15))).f0), .string ((rd_T37 l0 (rd l1 (ji15))).f1), .slice A104_2 ((rd_T37 l0 (rd l1 (ji15))).f2).length c104_2, .string ((rd_T37 l0 (rd l1 (ji15))).f3), .int .i64 ((rd_T37 l0 (rd l1 (ji15))).f4), .slice A104_5 ((rd_T37 l0 (rd l1 (ji15))).f5).length c104_5] 37 (0, 0)) (by (with_reducible repeat (first | refine blk_drewN ?_ _ | refine blk_drew ?_ | refine blk_alloc ?_ _)); exact BK105.out) hb); have n2_ := Aside0.mk (below_step (by repeat (first | (with_reducible first | exact HB.out | apply below_alloc | apply pw_below_drewN | apply below_drew1 | refine below_set ?_ GE102.out | refine below_set ?_ GE105.out) | exact HB.out)) hb); clear BK102; clear BK105; clear HB; have BK102 := n0_; have BK105 := n1_; have HB := n2_; clear n0_ n1_ n2_; (try clear hb); (try clear hb2); (try clear hk); (try clear hi)))
                 go_ret
                 exact ⟨by first | rfl | (simp [errW_none, errW_some] <;> rfl) | (simp only [← hji15]; first | rfl | (simp [errW_none, errW_some] <;> rfl)) | (simp [*, errW_none, errW_some] <;> rfl), by repeat (first | (with_reducible first | exact HB.out | apply below_alloc | apply pw_below_drewN | apply below_drew1 | refine below_set ?_ GE102.out | refine below_set ?_ GE105.out) | exact HB.out)⟩
              ·replace c36 := Bool.eq_false_iff.mpr c36
               subst c36
               have H1 : (some false) = some r := by rw [if_neg (show ¬ (false = true) by decide)] at H; exact H
               clear H
               have H := H1
               clear H1
               obtain rfl := Option.some.inj H
               have hnb62 := NB102_105.out
               have hnc62 := NB105_102.out
               have hcz63_0 : wc.cell? ⟨gb102, 0, none⟩ = some (.int .u8 ((rd_T37 l0 a2).f0)) := (blk_cell BK102.out 0).trans rfl
               have hcz63_1 : wc.cell? ⟨gb102, 1, none⟩ = some (.string ((rd_T37 l0 a2).f1)) := (blk_cell BK102.out 1).trans rfl
               have hcz63_2 : wc.cell? ⟨gb102, 2, none⟩ = some (.slice A101_2 ((rd_T37 l0 a2).f2).length c101_2) := (blk_cell BK102.out 2).trans rfl
               have hcz63_3 : wc.cell? ⟨gb102, 3, none⟩ = some (.string ((rd_T37 l0 a2).f3)) := (blk_cell BK102.out 3).trans rfl
               have hcz63_4 : wc.cell? ⟨gb102, 4, none⟩ = some (.int .i64 ((rd_T37 l0 a2).f4)) := (blk_cell BK102.out 4).trans rfl
               have hcz63_5 : wc.cell? ⟨gb102, 5, none⟩ = some (.slice A101_5 ((rd_T37 l0 a2).f5).length c101_5) := (blk_cell BK102.out 5).trans rfl
               have hfz63_0 := blk_frozen BK102.out 0
               have hfz63_1 := blk_frozen BK102.out 1
               have hfz63_2 := blk_frozen BK102.out 2
               have hfz63_3 := blk_frozen BK102.out 3
               have hfz63_4 := blk_frozen BK102.out 4
               have hfz63_5 := blk_frozen BK102.out 5
               have hcz64_0 : wc.cell? ⟨gb105, 0, none⟩ = some (.int .u8 ((rd_T37 l0 (rd l1 (ji15))).f0)) := (blk_cell BK105.out 0).trans rfl
               have hcz64_1 : wc.cell? ⟨gb105, 1, none⟩ = some (.string ((rd_T37 l0 (rd l1 (ji15))).f1)) := (blk_cell BK105.out 1).trans rfl
               have hcz64_2 : wc.cell? ⟨gb105, 2, none⟩ = some (.slice A104_2 ((rd_T37 l0 (rd l1 (ji15))).f2).length c104_2) := (blk_cell BK105.out 2).trans rfl
               have hcz64_3 : wc.cell? ⟨gb105, 3, none⟩ = some (.string ((rd_T37 l0 (rd l1 (ji15))).f3)) := (blk_cell BK105.out 3).trans rfl
               have hcz64_4 : wc.cell? ⟨gb105, 4, none⟩ = some (.int .i64 ((rd_T37 l0 (rd l1 (ji15))).f4)) := (blk_cell BK105.out 4).trans rfl
               have hcz64_5 : wc.cell? ⟨gb105, 5, none⟩ = some (.slice A104_5 ((rd_T37 l0 (rd l1 (ji15))).f5).length c104_5) := (blk_cell BK105.out 5).trans rfl
               have hfz64_0 := blk_frozen BK105.out 0
               have hfz64_1 := blk_frozen BK105.out 1
               have hfz64_2 := blk_frozen BK105.out 2
               have hfz64_3 := blk_frozen BK105.out 3
               have hfz64_4 := blk_frozen BK105.out 4
               have hfz64_5 := blk_frozen BK105.out 5
               go_wp2_with (first | ((with_reducible refine gate_callee (f := 81) rfl ?_); refine goesL_ (some 62) rfl rfl Tryd.func81 (by kernel_rfl) rfl #[.slice A104_5 ((rd_T37 l0 (rd l1 (ji15))).f5).length c104_5, .int .i64 a2] rfl (by (try simp only [List.map_toArray, List.map_cons, List.map_nil]); first | done | rfl | (simp only [List.length_drop, List.length_take]; rfl)) ?_; (with_reducible refine (slices_Index_int_int.calls kj19 _ _ ((rd_T37 l0 (rd l1 (ji15))).f5) a2 t107 _ ?side1 ?side2 A35.out).mono ?_); (case side1 => repeat (first | exact (Kd.C_below HR104_5.out HB.out) | (with_reducible refine Kd.C_alloc ?_ _) | (with_reducible refine Kd.C_drewN ?_ _) | (with_reducible refine Kd.C_drew ?_))); (case side2 => exact HC104_5.out); rintro e w' ⟨rfl, ⟨nd, rfl⟩⟩; refine ⟨_, rfl, ?_⟩))
               go_ret
               exact ⟨by first | rfl | (simp [errW_none, errW_some] <;> rfl) | (simp only [← hji15]; first | rfl | (simp [errW_none, errW_some] <;> rfl)) | (simp [*, errW_none, errW_some] <;> rfl), by repeat (first | (with_reducible first | exact HB.out | apply below_alloc | apply pw_below_drewN | apply below_drew1 | refine below_set ?_ GE102.out | refine below_set ?_ GE105.out) | exact HB.out)⟩
             ·rw [if_neg c34] at H
              have c34b0 : (((rd_T37 l0 a2).f0) == 2) = false := beq_eq_false_iff_ne.mpr c34
              have c34b1 : (((rd_T37 l0 a2).f0) != 2) = true := bne_iff_ne.mpr c34
              by_cases c65 : ((rd_T37 l0 a2).f0) = 1
              ·rw [if_pos c65] at H
               have c65b0 : (((rd_T37 l0 a2).f0) == 1) = true := beq_iff_eq.mpr c65
               have c65b1 : (((rd_T37 l0 a2).f0) != 1) = false := bne_eq_false_iff_eq.mpr c65
               clear c65
               by_cases c66 : ((rd_T37 l0 a2).f3).toList = ([] : List UInt8)
               ·rw [if_pos c66] at H
                have c66b0 : (((rd_T37 l0 a2).f3).toList == ([] : List UInt8)) = true := beq_iff_eq.mpr c66
                have c66b1 : (((rd_T37 l0 a2).f3).toList != ([] : List UInt8)) = false := bne_eq_false_iff_eq.mpr c66
                clear c66
                replace H := Option.bind_eq_some_iff.mp H
                obtain ⟨t111, A670, H⟩ := H
                replace H : (if t111 > 0 then ((x_attrs.f kj19 ((rd_T37 l0 a2).f2)).bind fun t112 => (if t112 = true then (if (l1.length : Int) ≤ 200 then ((tree_nested.f kj19 l0 l1 ((rd_T37 l0 a2).f1)).bind fun t113 => (some t113)) else (some false)) else (some false))) else (some false)) = some r := H
                have A67 := Aside0.mk A670
                clear A670
                by_cases c68 : t111 > 0
                ·rw [if_pos c68] at H
                 have c68b0 : decide (0 < t111) = true := decide_eq_true c68
                 clear c68
                 replace H := Option.bind_eq_some_iff.mp H
                 obtain ⟨t112, A690, H⟩ := H
                 replace H : (if t112 = true then (if (l1.length : Int) ≤ 200 then ((tree_nested.f kj19 l0 l1 ((rd_T37 l0 a2).f1)).bind fun t113 => (some t113)) else (some false)) else (some false)) = some r := H
                 have A69 := Aside0.mk A690
                 clear A690
                 by_cases c70 : t112 = true
                 ·subst c70
                  have H1 : (if (l1.length : Int) ≤ 200 then ((tree_nested.f kj19 l0 l1 ((rd_T37 l0 a2).f1)).bind fun t113 => (some t113)) else (some false)) = some r := by rw [if_pos rfl] at H; exact H
                  clear H
                  have H := H1
                  clear H1
                  by_cases c71 : (l1.length : Int) ≤ 200
                  ·rw [if_pos c71] at H
                   have c71b0 : decide ((l1.length : Int) ≤ 200) = true := decide_eq_true c71
                   have c71b1 : decide (l1.length ≤ 200) = true := decide_eq_true (by omega)
                   clear c71
                   replace H := Option.bind_eq_some_iff.mp H
                   obtain ⟨t113, A720, H⟩ := H
                   replace H : (some t113) = some r := H
                   have A72 := Aside0.mk A720
                   clear A720
                   obtain rfl := Option.some.inj H
                   have hnb73 := NB102_105.out
                   have hnc73 := NB105_102.out
                   have hcz74_0 : wc.cell? ⟨gb102, 0, none⟩ = some (.int .u8 ((rd_T37 l0 a2).f0)) := (blk_cell BK102.out 0).trans rfl
                   have hcz74_1 : wc.cell? ⟨gb102, 1, none⟩ = some (.string ((rd_T37 l0 a2).f1)) := (blk_cell BK102.out 1).trans rfl
                   have hcz74_2 : wc.cell? ⟨gb102, 2, none⟩ = some (.slice A101_2 ((rd_T37 l0 a2).f2).length c101_2) := (blk_cell BK102.out 2).trans rfl
                   have hcz74_3 : wc.cell? ⟨gb102, 3, none⟩ = some (.string ((rd_T37 l0 a2).f3)) := (blk_cell BK102.out 3).trans rfl
                   have hcz74_4 : wc.cell? ⟨gb102, 4, none⟩ = some (.int .i64 ((rd_T37 l0 a2).f4)) := (blk_cell BK102.out 4).trans rfl
                   have hcz74_5 : wc.cell? ⟨gb102, 5, none⟩ = some (.slice A101_5 ((rd_T37 l0 a2).f5).length c101_5) := (blk_cell BK102.out 5).trans rfl
                   have hfz74_0 := blk_frozen BK102.out 0
                   have hfz74_1 := blk_frozen BK102.out 1
                   have hfz74_2 := blk_frozen BK102.out 2
                   have hfz74_3 := blk_frozen BK102.out 3
                   have hfz74_4 := blk_frozen BK102.out 4
                   have hfz74_5 := blk_frozen BK102.out 5
                   go_wp2_with (first | (go_at_call 16; (with_reducible refine (tree_Kind.calls kj19 ((rd_T37 l0 a2).f1) t111 _ A67.out).mono ?_); rintro e w' ⟨rfl, ⟨nd, rfl⟩⟩) | (go_at_call 83; (with_reducible refine (x_attrs.calls kj19 _ _ ((rd_T37 l0 a2).f2) true _ ?side1 ?side2 A69.out (by first | exact hG1 | exact G1.below hG1 (by assumption) | exact G1.below hG1 HB.out | (apply G1.below hG1; repeat (first | (with_reducible first | exact HB.out | apply below_alloc | apply pw_below_drewN | apply below_drew1 | exact Below.refl _ _) | exact HB.out | exact Below.refl _ _)) | (have hd_ := ‹Aside0 (Drawn0 _ _)›.out.below; exact G1.below hG1 hd_))).mono ?_); (case side1 => repeat (first | exact (Kd.C_below HR101_2.out (by repeat (first | (with_reducible first | exact HB.out | apply below_alloc | apply pw_below_drewN | apply below_drew1 | refine below_set ?_ GE102.out | refine below_set ?_ GE105.out) | exact HB.out))) | (with_reducible refine Kd.C_alloc ?_ _) | (with_reducible refine Kd.C_drewN ?_ _) | (with_reducible refine Kd.C_drew ?_))); (case side2 => exact HC101_2.out); rintro e w75 ⟨rfl, hb⟩; have n0_ := Aside0.mk (blk_below (g := gb102) (o := .cells #[.int .u8 ((rd_T37 l0 a2).f0), .string ((rd_T37 l0 a2).f1), .slice A101_2 ((rd_T37 l0 a2).f2).length c101_2, .string ((rd_T37 l0 a2).f3), .int .i64 ((rd_T37 l0 a2).f4), .slice A101_5 ((rd_T37 l0 a2).f5).length c101_5] 37 (0, 0)) (by (with_reducible repeat (first | refine blk_drewN ?_ _ | refine blk_drew ?_ | refine blk_alloc ?_ _)); exact BK102.out) hb); have n1_ := Aside0.mk (blk_below (g := gb105) (o := .cells #[.int .u8 ((rd_T37 l0 (rd l1 (ji15))).f0), .string ((rd_T37 l0 (rd l1 (ji15))).f1), .slice A104_2 ((rd_T37 l0 (rd l1 (ji15))).f2).length c104_2, .string ((rd_T37 l0 (rd l1 (ji15))).f3), .int .i64 ((rd_T37 l0 (rd l1 (ji15))).f4), .slice A104_5 ((rd_T37 l0 (rd l1 (ji15))).f5).length c104_5] 37 (0, 0)) (by (with_reducible repeat (first | refine blk_drewN ?_ _ | refine blk_drew ?_ | refine blk_alloc ?_ _)); exact BK105.out) hb); have n2_ := Aside0.mk (below_step (by repeat (first | (with_reducible first | exact HB.out | apply below_alloc | apply pw_below_drewN | apply below_drew1 | refine below_set ?_ GE102.out | refine below_set ?_ GE105.out) | exact HB.out)) hb); clear BK102; clear BK105; clear HB; have BK102 := n0_; have BK105 := n1_; have HB := n2_; clear n0_ n1_ n2_; (try clear hb); (try clear hb2); (try clear hk); (try clear hi); have hcz76_0 : w75.cell? ⟨gb102, 0, none⟩ = some (.int .u8 ((rd_T37 l0 a2).f0)) := (blk_cell BK102.out 0).trans rfl; have hcz76_1 : w75.cell? ⟨gb102, 1, none⟩ = some (.string ((rd_T37 l0 a2).f1)) := (blk_cell BK102.out 1).trans rfl; have hcz76_2 : w75.cell? ⟨gb102, 2, none⟩ = some (.slice A101_2 ((rd_T37 l0 a2).f2).length c101_2) := (blk_cell BK102.out 2).trans rfl; have hcz76_3 : w75.cell? ⟨gb102, 3, none⟩ = some (.string ((rd_T37 l0 a2).f3)) := (blk_cell BK102.out 3).trans rfl; have hcz76_4 : w75.cell? ⟨gb102, 4, none⟩ = some (.int .i64 ((rd_T37 l0 a2).f4)) := (blk_cell BK102.out 4).trans rfl; have hcz76_5 : w75.cell? ⟨gb102, 5, none⟩ = some (.slice A101_5 ((rd_T37 l0 a2).f5).length c101_5) := (blk_cell BK102.out 5).trans rfl; have hfz76_0 := blk_frozen BK102.out 0; have hfz76_1 := blk_frozen BK102.out 1; have hfz76_2 := blk_frozen BK102.out 2; have hfz76_3 := blk_frozen BK102.out 3; have hfz76_4 := blk_frozen BK102.out 4; have hfz76_5 := blk_frozen BK102.out 5) | (go_at_call 84; (with_reducible refine (tree_nested.calls kj19 _ _ l0 _ _ l1 ((rd_T37 l0 a2).f1) t113 _ ?side1 ?side2 ?side3 ?side4 A72.out).mono ?_); (case side1 => repeat (first | exact (Kd.C_below HR0.out HB.out) | (with_reducible refine Kd.C_alloc ?_ _) | (with_reducible refine Kd.C_drewN ?_ _) | (with_reducible refine Kd.C_drew ?_))); (case side2 => exact HC0.out); (case side3 => repeat (first | exact (Kd.C_below HR1.out HB.out) | (with_reducible refine Kd.C_alloc ?_ _) | (with_reducible refine Kd.C_drewN ?_ _) | (with_reducible refine Kd.C_drew ?_))); (case side4 => exact HC1.out); rintro e w' ⟨rfl, ⟨nd, rfl⟩⟩))
                   go_ret
                   exact ⟨by first | rfl | (simp [errW_none, errW_some] <;> rfl) | (simp only [← hji15]; first | rfl | (simp [errW_none, errW_some] <;> rfl)) | (simp [*, errW_none, errW_some] <;> rfl), by repeat (first | (with_reducible first | exact HB.out | apply below_alloc | apply pw_below_drewN | apply below_drew1 | refine below_set ?_ GE102.out | refine below_set ?_ GE105.out) | exact HB.out)⟩
                  ·rw [if_neg c71] at H
                   have c71b0 : decide ((l1.length : Int) ≤ 200) = false := decide_eq_false c71
                   have c71b1 : decide (l1.length ≤ 200) = false := decide_eq_false (by omega)
                   clear c71
                   obtain rfl := Option.some.inj H
                   have hnb77 := NB102_105.out
                   have hnc77 := NB105_102.out
                   have hcz78_0 : wc.cell? ⟨gb102, 0, none⟩ = some (.int .u8 ((rd_T37 l0 a2).f0)) := (blk_cell BK102.out 0).trans rfl
                   have hcz78_1 : wc.cell? ⟨gb102, 1, none⟩ = some (.string ((rd_T37 l0 a2).f1)) := (blk_cell BK102.out 1).trans rfl
                   have hcz78_2 : wc.cell? ⟨gb102, 2, none⟩ = some (.slice A101_2 ((rd_T37 l0 a2).f2).length c101_2) := (blk_cell BK102.out 2).trans rfl
                   have hcz78_3 : wc.cell? ⟨gb102, 3, none⟩ = some (.string ((rd_T37 l0 a2).f3)) := (blk_cell BK102.out 3).trans rfl
                   have hcz78_4 : wc.cell? ⟨gb102, 4, none⟩ = some (.int .i64 ((rd_T37 l0 a2).f4)) := (blk_cell BK102.out 4).trans rfl
                   have hcz78_5 : wc.cell? ⟨gb102, 5, none⟩ = some (.slice A101_5 ((rd_T37 l0 a2).f5).length c101_5) := (blk_cell BK102.out 5).trans rfl
                   have hfz78_0 := blk_frozen BK102.out 0
                   have hfz78_1 := blk_frozen BK102.out 1
                   have hfz78_2 := blk_frozen BK102.out 2
                   have hfz78_3 := blk_frozen BK102.out 3
                   have hfz78_4 := blk_frozen BK102.out 4
                   have hfz78_5 := blk_frozen BK102.out 5
                   go_wp2_with (first | (go_at_call 16; (with_reducible refine (tree_Kind.calls kj19 ((rd_T37 l0 a2).f1) t111 _ A67.out).mono ?_); rintro e w' ⟨rfl, ⟨nd, rfl⟩⟩) | (go_at_call 83; (with_reducible refine (x_attrs.calls kj19 _ _ ((rd_T37 l0 a2).f2) true _ ?side1 ?side2 A69.out (by first | exact hG1 | exact G1.below hG1 (by assumption) | exact G1.below hG1 HB.out | (apply G1.below hG1; repeat (first | (with_reducible first | exact HB.out | apply below_alloc | apply pw_below_drewN | apply below_drew1 | exact Below.refl _ _) | exact HB.out | exact Below.refl _ _)) | (have hd_ := ‹Aside0 (Drawn0 _ _)›.out.below; exact G1.below hG1 hd_))).mono ?_); (case side1 => repeat (first | exact (Kd.C_below HR101_2.out (by repeat (first | (with_reducible first | exact HB.out | apply below_alloc | apply pw_below_drewN | apply below_drew1 | refine below_set ?_ GE102.out | refine below_set ?_ GE105.out) | exact HB.out))) | (with_reducible refine Kd.C_alloc ?_ _) | (with_reducible refine Kd.C_drewN ?_ _) | (with_reducible refine Kd.C_drew ?_))); (case side2 => exact HC101_2.out); rintro e w79 ⟨rfl, hb⟩; have n0_ := Aside0.mk (blk_below (g := gb102) (o := .cells #[.int .u8 ((rd_T37 l0 a2).f0), .string ((rd_T37 l0 a2).f1), .slice A101_2 ((rd_T37 l0 a2).f2).length c101_2, .string ((rd_T37 l0 a2).f3), .int .i64 ((rd_T37 l0 a2).f4), .slice A101_5 ((rd_T37 l0 a2).f5).length c101_5] 37 (0, 0)) (by (with_reducible repeat (first | refine blk_drewN ?_ _ | refine blk_drew ?_ | refine blk_alloc ?_ _)); exact BK102.out) hb); have n1_ := Aside0.mk (blk_below (g := gb105) (o := .cells #[.int .u8 ((rd_T37 l0 (rd l1 (ji15))).f0), .string ((rd_T37 l0 (rd l1 (ji15))).f1), .slice A104_2 ((rd_T37 l0 (rd l1 (ji15))).f2).length c104_2, .string ((rd_T37 l0 (rd l1 (ji15))).f3), .int .i64 ((rd_T37 l0 (rd l1 (ji15))).f4), .slice A104_5 ((rd_T37 l0 (rd l1 (ji15))).f5).length c104_5] 37 (0, 0)) (by (with_reducible repeat (first | refine blk_drewN ?_ _ | refine blk_drew ?_ | refine blk_alloc ?_ _)); exact BK105.out) hb); have n2_ := Aside0.mk (below_step (by repeat (first | (with_reducible first | exact HB.out | apply below_alloc | apply pw_below_drewN | apply below_drew1 | refine below_set ?_ GE102.out | refine below_set ?_ GE105.out) | exact HB.out)) hb); clear BK102; clear BK105; clear HB; have BK102 := n0_; have BK105 := n1_; have HB := n2_; clear n0_ n1_ n2_; (try clear hb); (try clear hb2); (try clear hk); (try clear hi)))
                   go_ret
                   exact ⟨by first | rfl | (simp [errW_none, errW_some] <;> rfl) | (simp only [← hji15]; first | rfl | (simp [errW_none, errW_some] <;> rfl)) | (simp [*, errW_none, errW_some] <;> rfl), by repeat (first | (with_reducible first | exact HB.out | apply below_alloc | apply pw_below_drewN | apply below_drew1 | refine below_set ?_ GE102.out | refine below_set ?_ GE105.out) | exact HB.out)⟩
                 ·replace c70 := Bool.eq_false_iff.mpr c70
                  subst c70
                  have H1 : (some false) = some r := by rw [if_neg (show ¬ (false = true) by decide)] at H; exact H
                  clear H
                  have H := H1
                  clear H1
                  obtain rfl := Option.some.inj H
                  have hnb80 := NB102_105.out
                  have hnc80 := NB105_102.out
                  have hcz81_0 : wc.cell? ⟨gb102, 0, none⟩ = some (.int .u8 ((rd_T37 l0 a2).f0)) := (blk_cell BK102.out 0).trans rfl
                  have hcz81_1 : wc.cell? ⟨gb102, 1, none⟩ = some (.string ((rd_T37 l0 a2).f1)) := (blk_cell BK102.out 1).trans rfl
                  have hcz81_2 : wc.cell? ⟨gb102, 2, none⟩ = some (.slice A101_2 ((rd_T37 l0 a2).f2).length c101_2) := (blk_cell BK102.out 2).trans rfl
                  have hcz81_3 : wc.cell? ⟨gb102, 3, none⟩ = some (.string ((rd_T37 l0 a2).f3)) := (blk_cell BK102.out 3).trans rfl
                  have hcz81_4 : wc.cell? ⟨gb102, 4, none⟩ = some (.int .i64 ((rd_T37 l0 a2).f4)) := (blk_cell BK102.out 4).trans rfl
                  have hcz81_5 : wc.cell? ⟨gb102, 5, none⟩ = some (.slice A101_5 ((rd_T37 l0 a2).f5).length c101_5) := (blk_cell BK102.out 5).trans rfl
                  have hfz81_0 := blk_frozen BK102.out 0
                  have hfz81_1 := blk_frozen BK102.out 1
                  have hfz81_2 := blk_frozen BK102.out 2
                  have hfz81_3 := blk_frozen BK102.out 3
                  have hfz81_4 := blk_frozen BK102.out 4
                  have hfz81_5 := blk_frozen BK102.out 5
                  go_wp2_with (first | (go_at_call 16; (with_reducible refine (tree_Kind.calls kj19 ((rd_T37 l0 a2).f1) t111 _ A67.out).mono ?_); rintro e w' ⟨rfl, ⟨nd, rfl⟩⟩) | (go_at_call 83; (with_reducible refine (x_attrs.calls kj19 _ _ ((rd_T37 l0 a2).f2) false _ ?side1 ?side2 A69.out (by first | exact hG1 | exact G1.below hG1 (by assumption) | exact G1.below hG1 HB.out | (apply G1.below hG1; repeat (first | (with_reducible first | exact HB.out | apply below_alloc | apply pw_below_drewN | apply below_drew1 | exact Below.refl _ _) | exact HB.out | exact Below.refl _ _)) | (have hd_ := ‹Aside0 (Drawn0 _ _)›.out.below; exact G1.below hG1 hd_))).mono ?_); (case side1 => repeat (first | exact (Kd.C_below HR101_2.out (by repeat (first | (with_reducible first | exact HB.out | apply below_alloc | apply pw_below_drewN | apply below_drew1 | refine below_set ?_ GE102.out | refine below_set ?_ GE105.out) | exact HB.out))) | (with_reducible refine Kd.C_alloc ?_ _) | (with_reducible refine Kd.C_drewN ?_ _) | (with_reducible refine Kd.C_drew ?_))); (case side2 => exact HC101_2.out); rintro e w82 ⟨rfl, hb⟩; have n0_ := Aside0.mk (blk_below (g := gb102) (o := .cells #[.int .u8 ((rd_T37 l0 a2).f0), .string ((rd_T37 l0 a2).f1), .slice A101_2 ((rd_T37 l0 a2).f2).length c101_2, .string ((rd_T37 l0 a2).f3), .int .i64 ((rd_T37 l0 a2).f4), .slice A101_5 ((rd_T37 l0 a2).f5).length c101_5] 37 (0, 0)) (by (with_reducible repeat (first | refine blk_drewN ?_ _ | refine blk_drew ?_ | refine blk_alloc ?_ _)); exact BK102.out) hb); have n1_ := Aside0.mk (blk_below (g := gb105) (o := .cells #[.int .u8 ((rd_T37 l0 (rd l1 (ji15))).f0), .string ((rd_T37 l0 (rd l1 (ji15))).f1), .slice A104_2 ((rd_T37 l0 (rd l1 (ji15))).f2).length c104_2, .string ((rd_T37 l0 (rd l1 (ji15))).f3), .int .i64 ((rd_T37 l0 (rd l1 (ji15))).f4), .slice A104_5 ((rd_T37 l0 (rd l1 (ji15))).f5).length c104_5] 37 (0, 0)) (by (with_reducible repeat (first | refine blk_drewN ?_ _ | refine blk_drew ?_ | refine blk_alloc ?_ _)); exact BK105.out) hb); have n2_ := Aside0.mk (below_step (by repeat (first | (with_reducible first | exact HB.out | apply below_alloc | apply pw_below_drewN | apply below_drew1 | refine below_set ?_ GE102.out | refine below_set ?_ GE105.out) | exact HB.out)) hb); clear BK102; clear BK105; clear HB; have BK102 := n0_; have BK105 := n1_; have HB := n2_; clear n0_ n1_ n2_; (try clear hb); (try clear hb2); (try clear hk); (try clear hi)))
                  go_ret
                  exact ⟨by first | rfl | (simp [errW_none, errW_some] <;> rfl) | (simp only [← hji15]; first | rfl | (simp [errW_none, errW_some] <;> rfl)) | (simp [*, errW_none, errW_some] <;> rfl), by repeat (first | (with_reducible first | exact HB.out | apply below_alloc | apply pw_below_drewN | apply below_drew1 | refine below_set ?_ GE102.out | refine below_set ?_ GE105.out) | exact HB.out)⟩
                ·rw [if_neg c68] at H
                 have c68b0 : decide (0 < t111) = false := decide_eq_false c68
                 clear c68
                 obtain rfl := Option.some.inj H
                 have hnb83 := NB102_105.out
                 have hnc83 := NB105_102.out
                 have hcz84_0 : wc.cell? ⟨gb102, 0, none⟩ = some (.int .u8 ((rd_T37 l0 a2).f0)) := (blk_cell BK102.out 0).trans rfl
                 have hcz84_1 : wc.cell? ⟨gb102, 1, none⟩ = some (.string ((rd_T37 l0 a2).f1)) := (blk_cell BK102.out 1).trans rfl
                 have hcz84_2 : wc.cell? ⟨gb102, 2, none⟩ = some (.slice A101_2 ((rd_T37 l0 a2).f2).length c101_2) := (blk_cell BK102.out 2).trans rfl
                 have hcz84_3 : wc.cell? ⟨gb102, 3, none⟩ = some (.string ((rd_T37 l0 a2).f3)) := (blk_cell BK102.out 3).trans rfl
                 have hcz84_4 : wc.cell? ⟨gb102, 4, none⟩ = some (.int .i64 ((rd_T37 l0 a2).f4)) := (blk_cell BK102.out 4).trans rfl
                 have hcz84_5 : wc.cell? ⟨gb102, 5, none⟩ = some (.slice A101_5 ((rd_T37 l0 a2).f5).length c101_5) := (blk_cell BK102.out 5).trans rfl
                 have hfz84_0 := blk_frozen BK102.out 0
                 have hfz84_1 := blk_frozen BK102.out 1
                 have hfz84_2 := blk_frozen BK102.out 2
                 have hfz84_3 := blk_frozen BK102.out 3
                 have hfz84_4 := blk_frozen BK102.out 4
                 have hfz84_5 := blk_frozen BK102.out 5
                 go_wp2_with (first | (go_at_call 16; (with_reducible refine (tree_Kind.calls kj19 ((rd_T37 l0 a2).f1) t111 _ A67.out).mono ?_); rintro e w' ⟨rfl, ⟨nd, rfl⟩⟩))
                 go_ret
                 exact ⟨by first | rfl | (simp [errW_none, errW_some] <;> rfl) | (simp only [← hji15]; first | rfl | (simp [errW_none, errW_some] <;> rfl)) | (simp [*, errW_none, errW_some] <;> rfl), by repeat (first | (with_reducible first | exact HB.out | apply below_alloc | apply pw_below_drewN | apply below_drew1 | refine below_set ?_ GE102.out | refine below_set ?_ GE105.out) | exact HB.out)⟩
               ·rw [if_neg c66] at H
                have c66b0 : (((rd_T37 l0 a2).f3).toList == ([] : List UInt8)) = false := beq_eq_false_iff_ne.mpr c66
                have c66b1 : (((rd_T37 l0 a2).f3).toList != ([] : List UInt8)) = true := bne_iff_ne.mpr c66
                obtain rfl := Option.some.inj H
                have hnb85 := NB102_105.out
                have hnc85 := NB105_102.out
                have hcz86_0 : wc.cell? ⟨gb102, 0, none⟩ = some (.int .u8 ((rd_T37 l0 a2).f0)) := (blk_cell BK102.out 0).trans rfl
                have hcz86_1 : wc.cell? ⟨gb102, 1, none⟩ = some (.string ((rd_T37 l0 a2).f1)) := (blk_cell BK102.out 1).trans rfl
                have hcz86_2 : wc.cell? ⟨gb102, 2, none⟩ = some (.slice A101_2 ((rd_T37 l0 a2).f2).length c101_2) := (blk_cell BK102.out 2).trans rfl
                have hcz86_3 : wc.cell? ⟨gb102, 3, none⟩ = some (.string ((rd_T37 l0 a2).f3)) := (blk_cell BK102.out 3).trans rfl
                have hcz86_4 : wc.cell? ⟨gb102, 4, none⟩ = some (.int .i64 ((rd_T37 l0 a2).f4)) := (blk_cell BK102.out 4).trans rfl
                have hcz86_5 : wc.cell? ⟨gb102, 5, none⟩ = some (.slice A101_5 ((rd_T37 l0 a2).f5).length c101_5) := (blk_cell BK102.out 5).trans rfl
                have hfz86_0 := blk_frozen BK102.out 0
                have hfz86_1 := blk_frozen BK102.out 1
                have hfz86_2 := blk_frozen BK102.out 2
                have hfz86_3 := blk_frozen BK102.out 3
                have hfz86_4 := blk_frozen BK102.out 4
                have hfz86_5 := blk_frozen BK102.out 5
                go_wp2
                go_ret
                exact ⟨by first | rfl | (simp [errW_none, errW_some] <;> rfl) | (simp only [← hji15]; first | rfl | (simp [errW_none, errW_some] <;> rfl)) | (simp [*, errW_none, errW_some] <;> rfl), by repeat (first | (with_reducible first | exact HB.out | apply below_alloc | apply pw_below_drewN | apply below_drew1 | refine below_set ?_ GE102.out | refine below_set ?_ GE105.out) | exact HB.out)⟩
              ·rw [if_neg c65] at H
               have c65b0 : (((rd_T37 l0 a2).f0) == 1) = false := beq_eq_false_iff_ne.mpr c65
               have c65b1 : (((rd_T37 l0 a2).f0) != 1) = true := bne_iff_ne.mpr c65
               obtain rfl := Option.some.inj H
               have hnb87 := NB102_105.out
               have hnc87 := NB105_102.out
               have hcz88_0 : wc.cell? ⟨gb102, 0, none⟩ = some (.int .u8 ((rd_T37 l0 a2).f0)) := (blk_cell BK102.out 0).trans rfl
               have hcz88_1 : wc.cell? ⟨gb102, 1, none⟩ = some (.string ((rd_T37 l0 a2).f1)) := (blk_cell BK102.out 1).trans rfl
               have hcz88_2 : wc.cell? ⟨gb102, 2, none⟩ = some (.slice A101_2 ((rd_T37 l0 a2).f2).length c101_2) := (blk_cell BK102.out 2).trans rfl
               have hcz88_3 : wc.cell? ⟨gb102, 3, none⟩ = some (.string ((rd_T37 l0 a2).f3)) := (blk_cell BK102.out 3).trans rfl
               have hcz88_4 : wc.cell? ⟨gb102, 4, none⟩ = some (.int .i64 ((rd_T37 l0 a2).f4)) := (blk_cell BK102.out 4).trans rfl
               have hcz88_5 : wc.cell? ⟨gb102, 5, none⟩ = some (.slice A101_5 ((rd_T37 l0 a2).f5).length c101_5) := (blk_cell BK102.out 5).trans rfl
               have hfz88_0 := blk_frozen BK102.out 0
               have hfz88_1 := blk_frozen BK102.out 1
               have hfz88_2 := blk_frozen BK102.out 2
               have hfz88_3 := blk_frozen BK102.out 3
               have hfz88_4 := blk_frozen BK102.out 4
               have hfz88_5 := blk_frozen BK102.out 5
               go_wp2
               go_ret
               exact ⟨by first | rfl | (simp [errW_none, errW_some] <;> rfl) | (simp only [← hji15]; first | rfl | (simp [errW_none, errW_some] <;> rfl)) | (simp [*, errW_none, errW_some] <;> rfl), by repeat (first | (with_reducible first | exact HB.out | apply below_alloc | apply pw_below_drewN | apply below_drew1 | refine below_set ?_ GE102.out | refine below_set ?_ GE105.out) | exact HB.out)⟩
         ·rw [if_neg c19] at H
          exact absurd H (by simp)
        ·rw [if_neg c18] at H
         exact absurd H (by simp)
       ·rw [if_neg c17] at H
        exact absurd H (by simp)
      ·rw [if_neg c16] at H
       exact absurd H (by simp)
  ·rw [if_neg c5] at H
   exact absurd H (by simp)
 ·rw [if_neg c4] at H
  exact absurd H (by simp)

end Go.Proofs.YtpfhgolamlnhiaaDoor.XB
