/- The walk of serial.Serialize's closure at an element. -/
import Derived.Test.YtpfhgolamlnhiaaDoorPut2
import Derived.Test.YtpfhgolamlnhiaaDoorEsc2
import Derived.Deep.RegionHeld3
set_option linter.unusedVariables false
set_option linter.unusedSimpArgs false
namespace Go.Proofs.YtpfhgolamlnhiaaDoor
open Go.RowKit Go.Proofs.YtpfhgolamlnhiaaDoorW.PrintWords Go.Proofs.YtpfhgolamlnhiaaDoor.XT Go.Proofs.YtpfhgolamlnhiaaDoor.XA

theorem keep_cell {b : Nat} {wr w5 w6 : World} {x y : Value} (hk : OK5 b w5 w6) (hb : Below (wr.alloc (.cells #[x, y] 43)).drew.heap.size (wr.alloc (.cells #[x, y] 43)).drew w5) (i : Nat) {v : Value} (hv : #[x, y][i]? = some v) (hne : wr.heap.size ≠ b) : w6.cell? ⟨wr.heap.size, i, none⟩ = some v := by
  have h5 : w5.heap[wr.heap.size]? = some (.cells #[x, y] 43 (0, 0)) := (hb.block _ (by simp)).trans (heap_alloc_new wr _)
  rw [blk_cell (hk.at_ h5 hne (by decide)), hv]

set_option maxHeartbeats 4000000 in
set_option maxRecDepth 100000 in
theorem put_elem (k f : Nat) (w0 : W0) (A : Option Addr) (c : Nat) (t : List Nd) (acc r : List UInt8) (i : Nat) (w : World) (hT : Kd.C k37 w0.w A t.length t)
    (ih : ∀ (acc r : List UInt8) (i : Int) (w : World), putS k t f acc i = some r → PInv w0 A c t acc w → Calls Tryd.prog 38 (pArgs w0 i) w (PPost w0 A c t r w))
    (hI : PInv w0 A c t acc w) (hs : (acc.length : Int) ≤ 65536) (hi : i < t.length) (hk : (rd_T37 t i).f0 = 1)
    (h : ((headS (rd_T37 t i) acc).bind fun acc => (kidsS (putS k t f) acc (rd_T37 t i).f5).bind fun acc => footS k (rd_T37 t i) acc) = some r) :
    Calls Tryd.prog 38 (pArgs w0 i) w (PPost w0 A c t r w) := by
  obtain ⟨ad, A2, c2, A5, c5, rfl, e0, e1, e2, e3, e4, e5, l2, g2, l5, g5⟩ := at_T37 hT (i : Int) (by omega) (by omega)
  simp only [Int.toNat_natCast] at e0 e1 e2 e3 e4 e5
  replace e0 := pw_cell_below hI.bel e0
  replace e1 := pw_cell_below hI.bel e1
  replace e2 := pw_cell_below hI.bel e2
  replace e3 := pw_cell_below hI.bel e3
  replace e4 := pw_cell_below hI.bel e4
  replace e5 := pw_cell_below hI.bel e5
  generalize rd_T37 t (i : Int) = n at *
  have cbox : w.cell? ⟨w0.bx, 0, none⟩ = some (.slice (some ad) t.length c) := by rw [blk_cell hI.box]; rfl
  have hsz := hI.size
  have hl5 : n.f5.length ≤ 9223372036854775807 := g5.2.1
  obtain ⟨acc1, h1, h⟩ := Option.bind_eq_some_iff.1 h
  obtain ⟨acc2, h2, h⟩ := Option.bind_eq_some_iff.1 h
  have n2 : ¬ (n.f0 = 2) := by rw [hk]; decide
  unfold footS at h
  rw [if_pos hk] at h
  obtain ⟨kd, hkd, h⟩ := Option.bind_eq_some_iff.1 h
  unfold headS at h1
  rw [if_neg n2, if_pos hk] at h1
  split at h1
  case isFalse => cases h1
  rename_i hsz1
  obtain ⟨b1, hb1, h1⟩ := Option.bind_eq_some_iff.1 h1
  obtain ⟨b2, hb2, h1⟩ := Option.bind_eq_some_iff.1 h1
  have hl2 : n.f2.length ≤ 9223372036854775807 := g2.2.1
  have HKD := Lib.hid hkd
  have HB1 := Lib.hid hb1
  have HB2 := Lib.hid hb2
  have HF := Lib.hid h
  have H1 := Lib.hid h1
  have H2 := Lib.hid h2
  clear h h1 h2 n2 hkd hb1 hb2
  have IH := Lib.hid ih
  have HT := Lib.hid hT
  clear ih hT
  have hu := Tryd.underlying37
  rw [hk] at e0
  have HK := Lib.hid hk
  clear hk
  unfold pArgs
  go_enter Tryd.func38, Tryd.ntmps38
  go_wp2_with (go_at_call 39; refine (len_any _ _ acc _ hI.bld).mono ?_; rintro e w' ⟨rfl, rfl⟩)
  have hI2 : PInv w0 (some ad) c t acc (w.alloc (.cells (box6 n A2 c2 A5 c5) 37)) := hI.below (below_alloc (Below.refl _ _) _)
  have nb2 : (w.alloc (.cells (box6 n A2 c2 A5 c5) 37)).heap[w.heap.size]? = some (.cells (box6 n A2 c2 A5 c5) 37 (0, 0)) := heap_alloc_new _ _
  have hk02 : OK5 (w0.bb) w (w.alloc (.cells (box6 n A2 c2 A5 c5) 37)) := OK5.of_below (below_alloc (Below.refl _ _) _)
  have hbx : box6 n A2 c2 A5 c5 = #[.int .u8 1, .string n.f1, .slice A2 n.f2.length c2, .string n.f3, .int .i64 n.f4, .slice A5 n.f5.length c5] := by unfold box6; rw [HK.out]
  rw [hbx] at hI2 nb2 hk02
  refine (write_any _ _ acc _ b1 _ hI2.bld (by simp; omega) (by rw [ByteArray.data_append, Array.toList_append]; exact HB1.out)).mono ?_
  rintro e w3 ⟨rfl, hB3, hb3, hk3⟩
  have hI3 : PInv w0 (some ad) c t b1 w3 := hI2.wrote hB3 hb3 hk3
  have nb3 := hk3.at_ nb2 (by omega) (by decide)
  have hk03 : OK5 (w0.bb) w w3 := Lib.OthersKept.trans hk02 hk3
  have x2 : w3.cell? ⟨w.heap.size, 2, none⟩ = some (.slice A2 n.f2.length c2) := by rw [blk_cell nb3]; rfl
  clear hbx
  go_wp2
  go_loopw [33] (fun v wr => ∃ (j : Nat) (a : List UInt8), v = .int .i64 j ∧ j ≤ n.f2.length ∧ Hid (attrsS a (n.f2.drop j) = some b2) ∧ Hid (PInv w0 (some ad) c t a wr) ∧ Hid (wr.heap[w.heap.size]? = some (.cells #[.int .u8 1, .string n.f1, .slice A2 n.f2.length c2, .string n.f3, .int .i64 n.f4, .slice A5 n.f5.length c5] 37 (0, 0))) ∧ Hid (OK5 (w0.bb) w wr) ∧ w.heap.size < wr.heap.size) (fun v wr => n.f2.length - (intOf v).toNat)
  case atStart => exact ⟨0, b1, rfl, Nat.zero_le _, HB2, Lib.hid hI3, Lib.hid nb3, Lib.hid hk03, blk_lt nb3⟩
  case round =>
    obtain ⟨j, a, rfl, hj, ha, hIr, nbr, hkr, hsr⟩ := hrel
    by_cases hlt : j < n.f2.length
    · obtain ⟨ad2, rfl, z0, z1⟩ := at_T43 (Kd.C_below g2 hIr.out.bel) (j : Int) (by omega) (by omega)
      simp only [Int.toNat_natCast] at z0 z1
      have hd := ha.out
      rw [drop_rd n.f2 j hlt, attrsS] at hd
      generalize rd_T43 n.f2 (j : Int) = at0 at z0 z1 hd
      obtain ⟨p, hp, hd⟩ := Option.bind_eq_some_iff.1 hd
      obtain ⟨a', ha', hrest⟩ := Option.bind_eq_some_iff.1 hd
      unfold attrS at hp
      split at hp
      case isFalse => cases hp
      rename_i hz0
      obtain ⟨v, hv, hp⟩ := Option.bind_eq_some_iff.1 hp
      unfold escO at hv
      split at hv
      case isFalse => cases hv
      rename_i hz1
      obtain rfl := Option.some.inj hv
      have hes := Sv.esc_len true at0.f1.data.toList
      rw [Sv.size_list] at hes
      have hq1 : ¬ 9223372036854775807 < 1 + at0.f0.size := by omega
      have hq2 : ¬ 9223372036854775807 < 1 + at0.f0.size + 2 := by omega
      have hq3 : ¬ 9223372036854775807 < 1 + at0.f0.size + 2 + (Sv.esc true at0.f1.data.toList).length := by omega
      have hq4 : ¬ 9223372036854775807 < 1 + at0.f0.size + 2 + (Sv.esc true at0.f1.data.toList).length + 1 := by omega
      have HR := Lib.hid hrest
      have HP := Lib.hid (Option.some.inj hp)
      have HA' := Lib.hid ha'
      clear hd hrest hp ha' hv
      go_wp2_with fail
      have hIb : PInv w0 (some ad) c t a (wr.alloc (.cells #[.string at0.f0, .string at0.f1] 43)) := hIr.out.below (below_alloc (Below.refl _ _) _)
      go_region_held3 (fun w' => w'.cell? ⟨wr.heap.size, 0, none⟩ = some (.string at0.f0) ∧ w'.cell? ⟨wr.heap.size, 1, none⟩ = some (.string at0.f1))
        (first | go_keep | (exact ⟨pw_cell_below hb5 (by simp), pw_cell_below hb5 (by simp)⟩) | (exact ⟨keep_cell hk6 hb5 0 rfl (by omega), keep_cell hk6 hb5 1 rfl (by omega)⟩))
        (first | (go_at_call 11; refine (EscapeAttr_any at0.f1 _ (by omega)).mono ?_; rintro e w5 ⟨rfl, hb5⟩; have hb5' : Below (wr.alloc (.cells #[.string at0.f0, .string at0.f1] 43)).heap.size (wr.alloc (.cells #[.string at0.f0, .string at0.f1] 43)) w5 := below_drew' hb5) | (go_at_call 28; refine (write_any _ _ a _ a' _ ((show Bl w0.w.heap.size (w0.bb) a (wr.alloc (.cells #[.string at0.f0, .string at0.f1] 43)).drew from hIb.bld).below hb5) (by have := hb5.size; simp at this; omega) (by have e := HA'.out; rw [← HP.out] at e; simp [ByteArray.data_append] at e ⊢; exact e)).mono ?_; rintro e w6 ⟨rfl, hB6, hb6, hk6⟩))
      have hI6 : PInv w0 (some ad) c t a' w6 := (hIb.below (show Below (wr.alloc (.cells #[.string at0.f0, .string at0.f1] 43)).heap.size (wr.alloc (.cells #[.string at0.f0, .string at0.f1] 43)) w5 from hb5')).wrote hB6 hb6 hk6
      have hk06 : OK5 (w0.bb) w w6 := Lib.OthersKept.trans (Lib.OthersKept.trans (Lib.OthersKept.trans hkr.out (OK5.of_below (below_alloc (Below.refl _ _) _))) (OK5.of_below hb5')) hk6
      have hnr : w6.heap[w.heap.size]? = some (.cells #[.int .u8 1, .string n.f1, .slice _ n.f2.length c2, .string n.f3, .int .i64 n.f4, .slice A5 n.f5.length c5] 37 (0, 0)) := hk6.at_ ((hb5'.block _ (by simp; omega)).trans ((below_alloc (Below.refl _ _) _).block _ hsr |>.trans nbr.out)) (by omega) (by decide)
      go_wp2
      go_roundw
      case rel => exact ⟨j + 1, a', by go_num, by omega, HR, Lib.hid hI6, Lib.hid hnr, Lib.hid hk06, blk_lt hnr⟩
      case measure => simp [intOf]; omega
    · obtain rfl : j = n.f2.length := by omega
      have hfin := ha.out
      rw [List.drop_length, attrsS] at hfin
      obtain rfl := Option.some.inj hfin
      clear hfin
      go_wp2_with fail
      refine (write_any _ _ a _ acc1 _ hIr.out.bld (by omega) H1.out).mono ?_
      rintro e w7 ⟨rfl, hB7, hb7, hk7⟩
      have hI7 : PInv w0 _ c t acc1 w7 := hIr.out.wrote hB7 hb7 hk7
      have nb7 := hk7.at_ nbr.out (by omega) (by decide)
      have hk07 : OK5 (w0.bb) w w7 := Lib.OthersKept.trans hkr.out hk7
      rw [show (#[.int .u8 1, .string n.f1, .slice A2 n.f2.length c2, .string n.f3, .int .i64 n.f4, .slice A5 n.f5.length c5] : Array Value) = box6 n A2 c2 A5 c5 by unfold box6; rw [HK.out]] at nb7
      have x5 : w7.cell? ⟨w.heap.size, 5, none⟩ = some (.slice A5 n.f5.length c5) := by rw [blk_cell nb7]; rfl
      go_wp2
      go_loopw [52] (fun v wr => ∃ (j : Nat) (a : List UInt8), v = .int .i64 j ∧ j ≤ n.f5.length ∧ Hid (kidsS (putS k t f) a (n.f5.drop j) = some acc2) ∧ Hid (PInv w0 (some ad) c t a wr) ∧ Hid (wr.heap[w.heap.size]? = some (.cells (box6 n A2 c2 A5 c5) 37 (0, 0))) ∧ Hid (OK5 (w0.bb) w wr) ∧ w.heap.size < wr.heap.size) (fun v wr => n.f5.length - (intOf v).toNat)
      case atStart => exact ⟨0, acc1, rfl, Nat.zero_le _, H2, Lib.hid hI7, Lib.hid nb7, Lib.hid hk07, blk_lt nb7⟩
      case round =>
        obtain ⟨j, a, rfl, hj, ha, hIr, nbr, hkr, hsr⟩ := hrel
        by_cases hlt : j < n.f5.length
        · obtain ⟨ad5, rfl, ekid⟩ := at_int (Kd.C_below g5 hIr.out.bel) j hlt
          have hd := ha.out
          rw [drop_int n.f5 j hlt, kidsS] at hd
          generalize n.f5.getD j 0 = kc at ekid hd
          obtain ⟨a', ha', hrest⟩ := Option.bind_eq_some_iff.1 hd
          have HR := Lib.hid hrest
          clear hd hrest
          have cfn : wr.cell? ⟨w0.bf, 0, none⟩ = some (.func (.func 38) #[] #[.pointer (some ⟨w0.bb, 0, none⟩), .pointer (some ⟨w0.bx, 0, none⟩), .pointer (some ⟨w0.bf, 0, none⟩)]) := by rw [blk_cell hIr.out.fn]; rfl
          have hcall := Lib.hid (IH.out a a' kc wr ha' hIr.out)
          clear ha'
          go_wp2_with fail
          refine hcall.out.mono ?_
          rintro e w4 ⟨rfl, hI4, hk4⟩
          have nb4 := hk4.at_ nbr.out (by omega) (by decide)
          go_wp2
          go_roundw
          case rel => exact ⟨j + 1, a', by go_num, by omega, HR, Lib.hid hI4, Lib.hid nb4, Lib.hid (Lib.OthersKept.trans hkr.out hk4), blk_lt nb4⟩
          case measure => simp [intOf]; omega
        · obtain rfl : j = n.f5.length := by omega
          have hfin := ha.out
          rw [List.drop_length, kidsS] at hfin
          obtain rfl := Option.some.inj hfin
          clear hfin
          have y0 : wr.cell? ⟨w.heap.size, 0, none⟩ = some (.int .u8 n.f0) := by rw [blk_cell nbr.out]; rfl
          have y1 : wr.cell? ⟨w.heap.size, 1, none⟩ = some (.string n.f1) := by rw [blk_cell nbr.out]; rfl

          rw [HK.out] at y0
          have hF := HF.out
          have hla : a.length = a.length := rfl
          by_cases hk7 : kd < 7
          · rw [if_pos hk7, if_pos hsz1] at hF
            have HFw := Lib.hid hF
            have hq5 : ¬ 9223372036854775807 < 2 + n.f1.size := by omega
            have hd7 : decide (kd < 7) = true := decide_eq_true hk7
            clear hF hk7 hla
            go_wp2_with (go_at_call 16; refine (tree_Kind.calls k n.f1 kd _ HKD.out).mono ?_; rintro e w8 ⟨rfl, ⟨nd, rfl⟩⟩)
            refine (write_any _ _ a _ r _ (show Bl w0.w.heap.size (w0.bb) a (wr.drewN nd) from hIr.out.bld) (by simp; omega) (by have e := HFw.out; simp [ByteArray.data_append] at e ⊢; exact e)).mono ?_
            rintro e w9 ⟨rfl, hB9, hb9, hk9⟩
            have hI9 : PInv w0 _ c t r w9 := (show PInv w0 _ c t a (wr.drewN nd) from ⟨pw_below_drewN hIr.out.bel nd, hIr.out.box, hIr.out.bld, hIr.out.fn⟩).wrote hB9 hb9 hk9
            go_wp2
            go_end0
            exact ⟨rfl, hI9, Lib.OthersKept.trans hkr.out hk9⟩
          · rw [if_neg hk7] at hF
            obtain rfl := Option.some.inj hF
            have hd7 : decide (kd < 7) = false := decide_eq_false hk7
            clear hF hk7 hla
            go_wp2_with (go_at_call 16; refine (tree_Kind.calls k n.f1 kd _ HKD.out).mono ?_; rintro e w8 ⟨rfl, ⟨nd, rfl⟩⟩)
            go_end0
            exact ⟨rfl, ⟨pw_below_drewN hIr.out.bel nd, hIr.out.box, hIr.out.bld, hIr.out.fn⟩, hkr.out⟩
end Go.Proofs.YtpfhgolamlnhiaaDoor
