/- The walk of serial.Serialize's closure, case by case. -/
import Derived.Test.YtpfhgolamlnhiaaDoorPut
set_option linter.unusedVariables false
set_option linter.unusedSimpArgs false
namespace Go.Proofs.YtpfhgolamlnhiaaDoor
open Go.RowKit Go.Proofs.YtpfhgolamlnhiaaDoorW.PrintWords Go.Proofs.YtpfhgolamlnhiaaDoor.XT Go.Proofs.YtpfhgolamlnhiaaDoor.XA

/-- The closure's arguments: a node, and what it captured. -/
def pArgs (w0 : W0) (i : Int) : Array Value := #[.int .i64 i, .pointer (some ⟨w0.bb, 0, none⟩), .pointer (some ⟨w0.bx, 0, none⟩), .pointer (some ⟨w0.bf, 0, none⟩)]

set_option maxHeartbeats 1000000 in
set_option maxRecDepth 100000 in
theorem put_stop (w0 : W0) (A : Option Addr) (c : Nat) (t : List Nd) (acc : List UInt8) (i : Int) (w : World) (hI : PInv w0 A c t acc w) (hs : (65536 : Int) < (acc.length : Int)) :
    Calls Tryd.prog 38 (pArgs w0 i) w (PPost w0 A c t acc w) := by
  unfold pArgs
  go_enter Tryd.func38, Tryd.ntmps38
  go_wp2_with (go_at_call 39; refine (len_any _ _ acc _ hI.bld).mono ?_; rintro e w' ⟨rfl, rfl⟩)
  go_end0
  exact ⟨rfl, hI, Lib.OthersKept.refl _ _ _⟩

theorem at_int {w : World} {A : Option Addr} {n : Nat} {xs : List Int} (h : (Kd.int .i64).C w A n xs) (j : Nat) (hj : j < n) : ∃ ad, A = some ad ∧ w.cell? (ad.add j) = some (.int .i64 (xs.getD j 0)) := by
  obtain ⟨ad, cs, rfl, _, hK, hc⟩ := Kd.C_get h (0 : Int) (j : Int) (by omega) (by omega)
  have hK' : cs = [.int .i64 (xs.getD (j : Int).toNat 0)] := hK
  subst hK'
  have := hc 0 _ rfl
  refine ⟨ad, rfl, ?_⟩
  rw [Int.toNat_natCast] at this
  rwa [show j * (Kd.int IntKind.i64).sz + 0 = j from Nat.mul_one j] at this
theorem drop_int (l : List Int) (j : Nat) (h : j < l.length) : l.drop j = l.getD j 0 :: l.drop (j + 1) := by
  rw [List.drop_eq_getElem_cons h]
  congr 1
  simp [List.getD_eq_getElem?_getD, h]

/-- A node's box: a copy of its six cells. -/
def box6 (n : Nd) (A2 : Option Addr) (c2 : Nat) (A5 : Option Addr) (c5 : Nat) : Array Value := #[.int .u8 n.f0, .string n.f1, .slice A2 n.f2.length c2, .string n.f3, .int .i64 n.f4, .slice A5 n.f5.length c5]

set_option maxHeartbeats 4000000 in
set_option maxRecDepth 100000 in
theorem put_text (k f : Nat) (w0 : W0) (A : Option Addr) (c : Nat) (t : List Nd) (acc r : List UInt8) (i : Nat) (w : World) (hT : Kd.C k37 w0.w A t.length t)
    (ih : ∀ (acc r : List UInt8) (i : Int) (w : World), putS k t f acc i = some r → PInv w0 A c t acc w → Calls Tryd.prog 38 (pArgs w0 i) w (PPost w0 A c t r w))
    (hI : PInv w0 A c t acc w) (hs : (acc.length : Int) ≤ 65536) (hi : i < t.length) (hk : (rd_T37 t i).f0 = 2)
    (h : ((headS (rd_T37 t i) acc).bind fun acc => (kidsS (putS k t f) acc (rd_T37 t i).f5).bind fun acc => footS k (rd_T37 t i) acc) = some r) :
    Calls Tryd.prog 38 (pArgs w0 i) w (PPost w0 A c t r w) := by
  obtain ⟨ad, A2, c2, A5, c5, rfl, e0, e1, e2, e3, e4, e5, l2, g2, l5, g5⟩ := at_T37 hT (i : Int) (by omega) (by omega)
  simp only [Int.toNat_natCast] at e0 e1 e2 e3 e4 e5
  replace e0 := pw_cell_below hI.bel e0
  replace e1 := pw_cell_below hI.bel e1
  replace e2 := pw_cell_below hI.bel e2
  replace e3 := pw_cell_below hI.bel e3
  replace e4 := pw_cell_below hI.bel e4
  replace e5 := pw_cell_below hI.bel e5
  generalize rd_T37 t (i : Int) = n at *
  have cbox : w.cell? ⟨w0.bx, 0, none⟩ = some (.slice (some ad) t.length c) := by rw [blk_cell hI.box]; rfl
  have hsz := hI.size
  have hl5 : n.f5.length ≤ 9223372036854775807 := g5.2.1
  obtain ⟨acc1, h1, h⟩ := Option.bind_eq_some_iff.1 h
  obtain ⟨acc2, h2, h⟩ := Option.bind_eq_some_iff.1 h
  have n2 : ¬ (n.f0 = 1) := by rw [hk]; decide
  unfold footS at h
  rw [if_neg n2] at h
  obtain rfl := Option.some.inj h
  unfold headS at h1
  rw [if_pos hk] at h1
  obtain ⟨p, hp, h1⟩ := Option.bind_eq_some_iff.1 h1
  unfold escO at hp
  split at hp
  case isFalse => cases hp
  rename_i hsz3
  obtain rfl := Option.some.inj hp
  have hsz3' : n.f3.size ≤ 17592186044416 := by omega
  have H1 := Lib.hid h1
  have H2 := Lib.hid h2
  clear h h1 h2 n2 hp
  have IH := Lib.hid ih
  have HT := Lib.hid hT
  clear ih hT
  have hu := Tryd.underlying37
  rw [hk] at e0
  have HK := Lib.hid hk
  clear hk
  unfold pArgs
  go_enter Tryd.func38, Tryd.ntmps38
  go_wp2_with (go_at_call 39; refine (len_any _ _ acc _ hI.bld).mono ?_; rintro e w' ⟨rfl, rfl⟩)
  refine (Escape_any n.f3 _ hsz3').mono ?_
  rintro e w2 ⟨rfl, hb2⟩
  have hI2 : PInv w0 (some ad) c t acc w2 := (hI.below (below_alloc (Below.refl _ _) _)).below hb2
  have nb : w2.heap[w.heap.size]? = some (.cells (box6 n A2 c2 A5 c5) 37 (0, 0)) := by
    rw [hb2.block _ (by simp), heap_alloc_new, box6, HK.out]
  have hlt2 : w.heap.size < w2.heap.size := blk_lt nb
  go_wp2_with fail
  refine (write_any _ _ acc _ acc1 _ hI2.bld (by omega) H1.out).mono ?_
  rintro e w3 ⟨rfl, hB3, hb3, hk3⟩
  have hI3 : PInv w0 (some ad) c t acc1 w3 := hI2.wrote hB3 hb3 hk3
  have nb3 := hk3.at_ nb (by omega) (by decide)
  have hk03 : OK5 (w0.bb) w w3 := Lib.OthersKept.trans (Lib.OthersKept.trans (OK5.of_below (below_alloc (Below.refl _ _) _)) (OK5.of_below hb2)) hk3
  have x0 : w3.cell? ⟨w.heap.size, 0, none⟩ = some (.int .u8 n.f0) := by rw [blk_cell nb3]; rfl
  have x1 : w3.cell? ⟨w.heap.size, 1, none⟩ = some (.string n.f1) := by rw [blk_cell nb3]; rfl
  have x5 : w3.cell? ⟨w.heap.size, 5, none⟩ = some (.slice A5 n.f5.length c5) := by rw [blk_cell nb3]; rfl
  go_wp2
  go_loopw [52] (fun v wr => ∃ (j : Nat) (a : List UInt8), v = .int .i64 j ∧ j ≤ n.f5.length ∧ Hid (kidsS (putS k t f) a (n.f5.drop j) = some acc2) ∧ Hid (PInv w0 (some ad) c t a wr) ∧ Hid (wr.heap[w.heap.size]? = some (.cells (box6 n A2 c2 A5 c5) 37 (0, 0))) ∧ Hid (OK5 (w0.bb) w wr) ∧ w.heap.size < wr.heap.size) (fun v wr => n.f5.length - (intOf v).toNat)
  case atStart => exact ⟨0, _, rfl, Nat.zero_le _, H2, Lib.hid hI3, Lib.hid nb3, Lib.hid hk03, blk_lt nb3⟩
  case round =>
    obtain ⟨j, a, rfl, hj, ha, hIr, nbr, hkr, hsr⟩ := hrel
    by_cases hlt : j < n.f5.length
    · obtain ⟨ad5, rfl, ekid⟩ := at_int (Kd.C_below g5 hIr.out.bel) j hlt
      have hd := ha.out
      rw [drop_int n.f5 j hlt, kidsS] at hd
      generalize n.f5.getD j 0 = kc at ekid hd
      obtain ⟨a', ha', hrest⟩ := Option.bind_eq_some_iff.1 hd
      have HR := Lib.hid hrest
      clear hd hrest
      have cfn : wr.cell? ⟨w0.bf, 0, none⟩ = some (.func (.func 38) #[] #[.pointer (some ⟨w0.bb, 0, none⟩), .pointer (some ⟨w0.bx, 0, none⟩), .pointer (some ⟨w0.bf, 0, none⟩)]) := by rw [blk_cell hIr.out.fn]; rfl
      have hcall := Lib.hid (IH.out a a' kc wr ha' hIr.out)
      clear ha'
      go_wp2_with fail
      refine hcall.out.mono ?_
      rintro e w4 ⟨rfl, hI4, hk4⟩
      have nb4 := hk4.at_ nbr.out (by omega) (by decide)
      go_wp2
      go_roundw
      case rel => exact ⟨j + 1, a', by go_num, by omega, HR, Lib.hid hI4, Lib.hid nb4, Lib.hid (Lib.OthersKept.trans hkr.out hk4), blk_lt nb4⟩
      case measure => simp [intOf]; omega
    · obtain rfl : j = n.f5.length := by omega
      have hfin := ha.out
      rw [List.drop_length, kidsS] at hfin
      obtain rfl := Option.some.inj hfin
      clear hfin
      have y0 : wr.cell? ⟨w.heap.size, 0, none⟩ = some (.int .u8 n.f0) := by rw [blk_cell nbr.out]; rfl
      have y1 : wr.cell? ⟨w.heap.size, 1, none⟩ = some (.string n.f1) := by rw [blk_cell nbr.out]; rfl
      have t1 : ((2 : Int) == 1) = false := rfl
      rw [HK.out] at y0
      go_wp2
      go_end0
      exact ⟨rfl, hIr.out, hkr.out⟩
set_option maxHeartbeats 4000000 in
set_option maxRecDepth 100000 in
theorem put_other (k f : Nat) (w0 : W0) (A : Option Addr) (c : Nat) (t : List Nd) (acc r : List UInt8) (i : Nat) (w : World) (hT : Kd.C k37 w0.w A t.length t)
    (ih : ∀ (acc r : List UInt8) (i : Int) (w : World), putS k t f acc i = some r → PInv w0 A c t acc w → Calls Tryd.prog 38 (pArgs w0 i) w (PPost w0 A c t r w))
    (hI : PInv w0 A c t acc w) (hs : (acc.length : Int) ≤ 65536) (hi : i < t.length) (hk2 : ¬ (rd_T37 t i).f0 = 2) (hk1 : ¬ (rd_T37 t i).f0 = 1)
    (h : ((headS (rd_T37 t i) acc).bind fun acc => (kidsS (putS k t f) acc (rd_T37 t i).f5).bind fun acc => footS k (rd_T37 t i) acc) = some r) :
    Calls Tryd.prog 38 (pArgs w0 i) w (PPost w0 A c t r w) := by
  obtain ⟨ad, A2, c2, A5, c5, rfl, e0, e1, e2, e3, e4, e5, l2, g2, l5, g5⟩ := at_T37 hT (i : Int) (by omega) (by omega)
  simp only [Int.toNat_natCast] at e0 e1 e2 e3 e4 e5
  replace e0 := pw_cell_below hI.bel e0
  replace e1 := pw_cell_below hI.bel e1
  replace e2 := pw_cell_below hI.bel e2
  replace e3 := pw_cell_below hI.bel e3
  replace e4 := pw_cell_below hI.bel e4
  replace e5 := pw_cell_below hI.bel e5
  generalize rd_T37 t (i : Int) = n at *
  have cbox : w.cell? ⟨w0.bx, 0, none⟩ = some (.slice (some ad) t.length c) := by rw [blk_cell hI.box]; rfl
  have hsz := hI.size
  have hl5 : n.f5.length ≤ 9223372036854775807 := g5.2.1
  obtain ⟨acc1, h1, h⟩ := Option.bind_eq_some_iff.1 h
  obtain ⟨acc2, h2, h⟩ := Option.bind_eq_some_iff.1 h
  unfold footS at h
  rw [if_neg hk1] at h
  obtain rfl := Option.some.inj h
  unfold headS at h1
  rw [if_neg hk2, if_neg hk1] at h1
  obtain rfl := Option.some.inj h1
  have H2 := Lib.hid h2
  clear h h1 h2
  have IH := Lib.hid ih
  have HT := Lib.hid hT
  clear ih hT
  have hu := Tryd.underlying37
  have t2 : (n.f0 == 2) = false := beq_eq_false_iff_ne.2 hk2
  have t1 : (n.f0 == 1) = false := beq_eq_false_iff_ne.2 hk1
  clear hk1 hk2
  unfold pArgs
  go_enter Tryd.func38, Tryd.ntmps38
  go_wp2_with (go_at_call 39; refine (len_any _ _ acc _ hI.bld).mono ?_; rintro e w' ⟨rfl, rfl⟩)
  have hI3 : PInv w0 (some ad) c t acc (w.alloc (.cells (box6 n A2 c2 A5 c5) 37)) := hI.below (below_alloc (Below.refl _ _) _)
  have nb3 : (w.alloc (.cells (box6 n A2 c2 A5 c5) 37)).heap[w.heap.size]? = some (.cells (box6 n A2 c2 A5 c5) 37 (0, 0)) := heap_alloc_new _ _
  have hk03 : OK5 (w0.bb) w (w.alloc (.cells (box6 n A2 c2 A5 c5) 37)) := OK5.of_below (below_alloc (Below.refl _ _) _)
  go_loopw [52] (fun v wr => ∃ (j : Nat) (a : List UInt8), v = .int .i64 j ∧ j ≤ n.f5.length ∧ Hid (kidsS (putS k t f) a (n.f5.drop j) = some acc2) ∧ Hid (PInv w0 (some ad) c t a wr) ∧ Hid (wr.heap[w.heap.size]? = some (.cells (box6 n A2 c2 A5 c5) 37 (0, 0))) ∧ Hid (OK5 (w0.bb) w wr) ∧ w.heap.size < wr.heap.size) (fun v wr => n.f5.length - (intOf v).toNat)
  case atStart => exact ⟨0, _, rfl, Nat.zero_le _, H2, Lib.hid hI3, Lib.hid nb3, Lib.hid hk03, blk_lt nb3⟩
  case round =>
    obtain ⟨j, a, rfl, hj, ha, hIr, nbr, hkr, hsr⟩ := hrel
    by_cases hlt : j < n.f5.length
    · obtain ⟨ad5, rfl, ekid⟩ := at_int (Kd.C_below g5 hIr.out.bel) j hlt
      have hd := ha.out
      rw [drop_int n.f5 j hlt, kidsS] at hd
      generalize n.f5.getD j 0 = kc at ekid hd
      obtain ⟨a', ha', hrest⟩ := Option.bind_eq_some_iff.1 hd
      have HR := Lib.hid hrest
      clear hd hrest
      have cfn : wr.cell? ⟨w0.bf, 0, none⟩ = some (.func (.func 38) #[] #[.pointer (some ⟨w0.bb, 0, none⟩), .pointer (some ⟨w0.bx, 0, none⟩), .pointer (some ⟨w0.bf, 0, none⟩)]) := by rw [blk_cell hIr.out.fn]; rfl
      have hcall := Lib.hid (IH.out a a' kc wr ha' hIr.out)
      clear ha'
      go_wp2_with fail
      refine hcall.out.mono ?_
      rintro e w4 ⟨rfl, hI4, hk4⟩
      have nb4 := hk4.at_ nbr.out (by omega) (by decide)
      go_wp2
      go_roundw
      case rel => exact ⟨j + 1, a', by go_num, by omega, HR, Lib.hid hI4, Lib.hid nb4, Lib.hid (Lib.OthersKept.trans hkr.out hk4), blk_lt nb4⟩
      case measure => simp [intOf]; omega
    · obtain rfl : j = n.f5.length := by omega
      have hfin := ha.out
      rw [List.drop_length, kidsS] at hfin
      obtain rfl := Option.some.inj hfin
      clear hfin
      have y0 : wr.cell? ⟨w.heap.size, 0, none⟩ = some (.int .u8 n.f0) := by rw [blk_cell nbr.out]; rfl
      have y1 : wr.cell? ⟨w.heap.size, 1, none⟩ = some (.string n.f1) := by rw [blk_cell nbr.out]; rfl
      go_wp2
      go_end0
      exact ⟨rfl, hIr.out, hkr.out⟩
end Go.Proofs.YtpfhgolamlnhiaaDoor
