/- tree.builder.has: is an element open? -/
import Derived.Test.YtpfhgolamlnhiaaGreatDoorTreeB
import Derived.BigCall
import Derived.Laws.EntriesVeiled
import Derived.Deep.CutBlock
import Derived.Deep.LoopGhost
set_option linter.unusedVariables false
set_option linter.unusedSimpArgs false
namespace Go.Proofs.YtpfhgolamlnhiaaGreatDoor
open Go.RowKit Go.Proofs.YtpfhgolamlnhiaaGreatDoorW.PrintWords Go.Proofs.YtpfhgolamlnhiaaGreatDoor.XT Go.Proofs.YtpfhgolamlnhiaaGreatDoor.XA

theorem drawn_trans' {a b c : World} (h : Drawn0 a b) (k : Drawn0 b c) : Drawn0 a c := by
  obtain ⟨n, rfl⟩ := h.out
  obtain ⟨m, rfl⟩ := k.out
  exact ((Drawn0.refl a).step n).step m
set_option maxRecDepth 100000 in
set_option maxHeartbeats 1000000 in
theorem has1_calls (B g c1 c2 gt qt : Nat) (b : Bs) (vo : Value) (nm : ByteArray) (i : Int) (w : World) (h : BdAt B g b (.slice (some ⟨gt, 0, none⟩) b.t.length qt) vo w) (h1 : w.cell? ⟨c1, 0, none⟩ = some (.pointer (some ⟨g, 0, none⟩))) (h2 : w.cell? ⟨c2, 0, none⟩ = some (.string nm)) (i0 : 0 ≤ i) (i1 : i < b.t.length) :
    Calls Tryz.prog 97 #[.int .i64 i, .pointer (some ⟨c1, 0, none⟩), .pointer (some ⟨c2, 0, none⟩)] w fun e w' => e = .returned (.bool ((rd_T38 b.t i).f1.toList == nm.toList)) ∧ Drawn0 w w' := by
  have c0 := h.cell0
  obtain ⟨c, hcl, hM, hcc⟩ := Kd.S_get h.t z38 i i0 i1
  obtain ⟨v2, v5, rfl, -, -⟩ := k38_openM hM
  have k1 : w.cell? ⟨gt, i.toNat * 6 + 1, none⟩ = some (.string (rd_T38 b.t i).f1) := by
    have := hcc 1 _ rfl
    rw [add_at, Nat.zero_add] at this
    exact this
  generalize rd_T38 b.t i = nd at *
  clear hcc hM h hcl
  generalize b.t.length = M at *
  go_enter Tryz.func97, Tryz.ntmps97
  go_wp2_with fail
  go_quiet (fail)
  go_wp2_with fail
  go_ret
  exact ⟨rfl, ⟨⟨_, rfl⟩⟩⟩

theorem hasGo_drop {t : List NodeD} {nm : List UInt8} {l : List Int} {i : Nat} {v : Bool} (hlt : i < l.length) (h : hasGo t nm (l.drop i) = some v) :
    (0 ≤ rd l i ∧ rd l i < t.length) ∧ (if (rd_T38 t (rd l i)).f1.toList = nm then v = true else hasGo t nm (l.drop (i + 1)) = some v) := by
  rw [List.drop_eq_getElem_cons hlt, hasGo] at h
  have hr : rd l (i : Int) = l[i] := by
    unfold rd
    simp [List.getD_eq_getElem?_getD, hlt]
  rw [hr]
  split at h
  · rename_i hb
    refine ⟨hb, ?_⟩
    split at h
    · rw [if_pos ‹_›]; exact (Option.some.inj h).symm
    · rw [if_neg ‹_›]; exact h
  · cases h
set_option maxRecDepth 100000 in
set_option maxHeartbeats 2000000 in
theorem hasIdx_calls (B g c1 c2 gt qt : Nat) (b : Bs) (vo : Value) (nm : ByteArray) (A : Option Addr) (cp : Nat) (l : List Int) (v : Bool) (w : World) (h : BdAt B g b (.slice (some ⟨gt, 0, none⟩) b.t.length qt) vo w) (h1 : w.cell? ⟨c1, 0, none⟩ = some (.pointer (some ⟨g, 0, none⟩))) (h2 : w.cell? ⟨c2, 0, none⟩ = some (.string nm))
    (hr : Kd.C (Kd.int .i64) w A l.length l) (hv : hasGo b.t nm.toList l = some v) :
    Calls Tryz.prog 121 #[.slice A l.length cp, .func (.func 97) #[] #[.pointer (some ⟨c1, 0, none⟩), .pointer (some ⟨c2, 0, none⟩)]] w fun e w' => (∃ x : Int, e = .returned (.int .i64 x) ∧ decide (0 ≤ x) = v) ∧ Drawn0 w w' := by
  have hlen : l.length ≤ 9223372036854775807 := hr.2.1
  have HR := Lib.hid hr
  have HH := Lib.hid h
  have HV := Lib.hid hv
  have CC := fun (i : Int) (w' : World) (hb : Below w.heap.size w w') i0 i1 => has1_calls B g c1 c2 gt qt b vo nm i w' (h.below hb) (pw_cell_below hb h1) (pw_cell_below hb h2) i0 i1
  clear hr h h1 h2 hv
  go_enter Tryz.func121, Tryz.ntmps121
  go_wp2
  go_loopw [8] (fun u wr => ∃ i n : Nat, u = .int .i64 i ∧ i ≤ l.length ∧ Hid (hasGo b.t nm.toList (l.drop i) = some v) ∧ wr = w.drewN n) (fun u wr => l.length - (intOf u).toNat)
  case atStart => exact ⟨0, 0, rfl, Nat.zero_le _, HV, rfl⟩
  case round =>
    obtain ⟨i, n, rfl, hi, hid, rfl⟩ := hrel
    by_cases hlt : i < l.length
    · obtain ⟨ad, rfl, c0⟩ := Kd.at_int HR.out (i : Int) (by omega) (by omega)
      simp only [Int.toNat_natCast] at c0
      obtain ⟨⟨r0, r1⟩, hd⟩ := hasGo_drop hlt hid.out
      generalize rd l (i : Int) = x at *
      have CX := fun (w' : World) (hb : Below w.heap.size w w') => CC x w' hb r0 r1
      by_cases he : (rd_T38 b.t x).f1.toList = nm.toList
      · rw [if_pos he] at hd
        have hb : ((rd_T38 b.t x).f1.toList == nm.toList) = true := by simp [he]
        rw [hb] at CX
        clear he CC
        go_wp2_with (go_at_call 97; refine (CX _ (pw_below_drewN (Below.refl _ _) _)).mono ?_; rintro e w1 ⟨rfl, hb1⟩)
        go_ret
        exact ⟨⟨i, rfl, by rw [hd, decide_eq_true_iff]; omega⟩, drawn_trans' ⟨⟨n, rfl⟩⟩ hb1⟩
      · rw [if_neg he] at hd
        have HD := Lib.hid hd
        have hb : ((rd_T38 b.t x).f1.toList == nm.toList) = false := by simp [he]
        rw [hb] at CX
        clear he CC hd
        go_wp2_with (go_at_call 97; refine (CX _ (pw_below_drewN (Below.refl _ _) _)).mono ?_; rintro e w1 ⟨rfl, ⟨nd, rfl⟩⟩)
        go_roundw
        case rel => exact ⟨i + 1, _, by go_num, by omega, HD, rfl⟩
        case measure => simp [intOf]; omega
    · obtain rfl : i = l.length := by omega
      have hd := hid.out
      rw [List.drop_length] at hd
      have HF := Lib.hid hd
      clear hlt hd CC
      go_wp2_with fail
      go_ret
      have hf : false = v := Option.some.inj HF.out
      exact ⟨⟨-1, rfl, by rw [← hf]; rfl⟩, ⟨⟨n, rfl⟩⟩⟩
set_option maxRecDepth 100000 in
set_option maxHeartbeats 2000000 in
theorem hasCon_calls (B g c1 c2 gt qt : Nat) (b : Bs) (vo : Value) (nm : ByteArray) (A : Option Addr) (cp : Nat) (l : List Int) (v : Bool) (w : World) (h : BdAt B g b (.slice (some ⟨gt, 0, none⟩) b.t.length qt) vo w) (h1 : w.cell? ⟨c1, 0, none⟩ = some (.pointer (some ⟨g, 0, none⟩))) (h2 : w.cell? ⟨c2, 0, none⟩ = some (.string nm))
    (hr : Kd.C (Kd.int .i64) w A l.length l) (hv : hasGo b.t nm.toList l = some v) :
    Calls Tryz.prog 96 #[.slice A l.length cp, .func (.func 97) #[] #[.pointer (some ⟨c1, 0, none⟩), .pointer (some ⟨c2, 0, none⟩)]] w fun e w' => e = .returned (.bool v) ∧ Drawn0 w w' := by
  have HF := Lib.hid (hasIdx_calls B g c1 c2 gt qt b vo nm A cp l v w h h1 h2 hr hv)
  clear hr h h1 h2 hv
  go_enter Tryz.func96, Tryz.ntmps96
  go_wp2_with (go_at_call 121; refine HF.out.mono ?_; rintro e w1 ⟨⟨x, rfl, hx⟩, hb1⟩)
  go_ret
  exact ⟨by rw [← hx]; rfl, hb1⟩
set_option maxRecDepth 100000 in
set_option maxHeartbeats 2000000 in
theorem has_calls2 (B g : Nat) (b : Bs) (nm : ByteArray) (v : Bool) (w0 w : World) (h : BdEx B g b w) (hv : hasB b nm.toList = some v) :
    Calls Tryz.prog 70 #[.pointer (some ⟨g, 0, none⟩), .string nm] w fun e w' => e = .returned (.bool v) ∧ Below w.heap.size w w' := by
  obtain ⟨vt, vo, h⟩ := h
  unfold hasB at hv
  split at hv
  case isTrue => cases hv
  rename_i hop0
  have hop : ¬ b.op.length = 0 := fun e => hop0 (.inl e)
  have ht : 0 < b.t.length := Nat.pos_of_ne_zero (fun e => hop0 (.inr e))
  clear hop0
  obtain ⟨gt, qt, rfl⟩ := h.tform ht
  obtain ⟨go, oo, co, rfl⟩ := h.oform (by omega)
  have H := Lib.hid h
  have c1 := h.cell1
  have hQ := Kd.Q_drop h.op (k := 1) (by omega)
  have hlc : b.op.length ≤ co := (Kd.Q_reads' h.op).2.1
  have hl : b.op.length ≤ 9223372036854775807 := (Kd.Q_reads' h.op).2.2.2.1
  have HC := Lib.hid (Kd.Q_reads' hQ).2.2
  have hll : (b.op.drop 1).length = b.op.length - 1 := List.length_drop
  have HV := Lib.hid hv
  have b0 : (1 : Int) ≤ (b.op.length : Int) := by omega
  have b1 : (b.op.length : Int) ≤ (co : Int) := by omega
  clear h hQ hv
  have hW : Below w.heap.size w ((w.alloc (.cells #[.pointer (some ⟨g, 0, none⟩)] 58)).alloc (.cells #[.string nm] 9)) := below_alloc (below_alloc (Below.refl _ _) _) _
  have d1 := pw_cell_below hW c1
  have e1 : ((w.alloc (.cells #[.pointer (some ⟨g, 0, none⟩)] 58)).alloc (.cells #[.string nm] 9)).cell? ⟨w.heap.size, 0, none⟩ = some (.pointer (some ⟨g, 0, none⟩)) := by
    rw [World.cell?_alloc_old _ _ _ (by simp), World.cell?_alloc_new]; rfl
  have e2 : ((w.alloc (.cells #[.pointer (some ⟨g, 0, none⟩)] 58)).alloc (.cells #[.string nm] 9)).cell? ⟨w.heap.size + 1, 0, none⟩ = some (.string nm) := by
    have e : (w.alloc (.cells #[.pointer (some ⟨g, 0, none⟩)] 58)).heap.size = w.heap.size + 1 := by simp
    rw [← e, World.cell?_alloc_new]; rfl
  have HX := fun (A : Option Addr) (cp : Nat) (hA : Kd.C (Kd.int .i64) w A (b.op.drop 1).length (b.op.drop 1)) => hasCon_calls B g w.heap.size (w.heap.size + 1) gt qt b _ nm A cp (b.op.drop 1) v _ (H.out.below hW) e1 e2 (Kd.C_below hA hW) HV.out
  rw [hll] at HX HC
  by_cases hco : co = 1
  · subst hco
    rw [if_pos rfl] at HC
    have h00 : b.op.length - 1 = 0 := by omega
    rw [h00] at HX HC
    go_enter Tryz.func70, Tryz.ntmps70
    go_wp2_with (go_at_call 96; refine (HX _ _ HC.out).mono ?_; rintro e w1 ⟨rfl, hd1⟩)
    go_ret
    exact ⟨rfl, below_then hW hW.size hd1.below⟩
  · rw [if_neg hco] at HC
    have HC' : Hid (Kd.C (Kd.int .i64) w (some ⟨go, oo + 1, none⟩) (b.op.length - 1) (b.op.drop 1)) := by
      have := HC.out
      rw [Option.map_some, add_at] at this
      exact Lib.hid this
    clear HC
    go_enter Tryz.func70, Tryz.ntmps70
    go_wp2_with (go_at_call 96; refine (HX _ _ HC'.out).mono ?_; rintro e w1 ⟨rfl, hd1⟩)
    go_ret
    exact ⟨rfl, below_then hW hW.size hd1.below⟩
end Go.Proofs.YtpfhgolamlnhiaaGreatDoor

set_option linter.unusedVariables false
set_option linter.unusedSimpArgs false
namespace Go.Proofs.YtpfhgolamlnhiaaGreatDoor
open Go.RowKit Go.Proofs.YtpfhgolamlnhiaaGreatDoorW.PrintWords Go.Proofs.YtpfhgolamlnhiaaGreatDoor.XT Go.Proofs.YtpfhgolamlnhiaaGreatDoor.XA

theorem BdAt.node {B g gt qt : Nat} {b : Bs} {vo : Value} {w : World} (h : BdAt B g b (.slice (some ⟨gt, 0, none⟩) b.t.length qt) vo w) (i : Int) (i0 : 0 ≤ i) (i1 : i < b.t.length) : w.cell? ⟨gt, i.toNat * 6 + 1, none⟩ = some (.string (rd_T38 b.t i).f1) := by
  obtain ⟨c, hcl, hM, hcc⟩ := Kd.S_get h.t z38 i i0 i1
  obtain ⟨v2, v5, rfl, -, -⟩ := k38_openM hM
  have := hcc 1 _ rfl
  rw [add_at, Nat.zero_add] at this
  exact this
/-- The current node's name. -/
theorem BdEx.top {B g : Nat} {b : Bs} {nm : ByteArray} {w : World} (h : BdEx B g b w) (hn : topName b = some nm) :
    ∃ gt qt vo, BdAt B g b (.slice (some ⟨gt, 0, none⟩) b.t.length qt) vo w ∧ topOk b ∧ w.cell? ⟨gt, (topI b).toNat * 6 + 1, none⟩ = some (.string nm) := by
  obtain ⟨vt, vo, h⟩ := h
  unfold topName at hn
  split at hn
  · rename_i hok
    obtain rfl := Option.some.inj hn
    obtain ⟨gt, qt, rfl⟩ := h.tform (by have := hok.2; omega)
    exact ⟨gt, qt, vo, h, hok, h.node _ hok.2.1 hok.2.2⟩
  · cases hn
theorem BdEx.name {B g : Nat} {b : Bs} {nm : ByteArray} {i : Int} {w : World} (h : BdEx B g b w) (hn : nameAt b i = some nm) :
    ∃ gt qt go oo co, BdAt B g b (.slice (some ⟨gt, 0, none⟩) b.t.length qt) (.slice (some ⟨go, oo, none⟩) b.op.length co) w ∧ 0 ≤ i ∧ i < b.op.length ∧ 0 ≤ rd b.op i ∧ rd b.op i < b.t.length ∧ w.cell? ⟨go, oo + i.toNat, none⟩ = some (.int .i64 (rd b.op i)) ∧ w.cell? ⟨gt, (rd b.op i).toNat * 6 + 1, none⟩ = some (.string nm) := by
  obtain ⟨vt, vo, h⟩ := h
  unfold nameAt at hn
  split at hn
  · rename_i hok
    obtain rfl := Option.some.inj hn
    obtain ⟨i0, i1, r0, r1⟩ := hok
    obtain ⟨gt, qt, rfl⟩ := h.tform (by omega)
    obtain ⟨go, oo, co, rfl⟩ := h.oform (by omega)
    exact ⟨gt, qt, go, oo, co, h, i0, i1, r0, r1, h.ocell i i0 i1, h.node _ r0 r1⟩
  · cases hn
set_option maxHeartbeats 4000000 in
set_option maxRecDepth 100000 in
theorem item_calls (B g k : Nat) (b : Bs) (r : Int × Bs) (w0 w : World) (h : BdEx B g b w) (hb : Below B w0 w) (hB : B ≤ g) (hBw : B ≤ w.heap.size) (hr : itemB k b = some r) :
    Calls Tryz.prog 68 #[.pointer (some ⟨g, 0, none⟩)] w fun e w' => e = .returned (.int .i64 r.1) ∧ BdEx B g r.2 w' ∧ Below B w0 w' ∧ KeepBut w w' g none := by
  unfold itemB at hr
  split at hr
  case isTrue => cases hr
  rename_i hp
  obtain ⟨gd, hf, hr2⟩ := Option.bind_eq_some_iff.1 hr
  clear hr
  have hr := hr2
  clear hr2
  have H := Lib.hid h
  have HB := Lib.hid hb
  obtain ⟨vt, vo, h⟩ := h
  obtain ⟨go, oo, co, rfl⟩ := h.oform (by omega)
  have c1 := h.cell1
  have hl : b.op.length ≤ 9223372036854775807 := (Kd.Q_reads' h.op).2.2.2.1
  have HF := Lib.hid hf
  have HR := Lib.hid hr
  clear h hb hf hr
  have hz : ((b.op.length : Int) - 1) = ((b.op.length - 1 : Nat) : Int) := by omega
  have HZ := Lib.hid hz
  clear hz
  go_enter Tryz.func68, Tryz.ntmps68
  go_wp2
  go_step3
  go_wp2
  go_step3
  go_upto_block 0 with fail
  go_cut [3, 4] from 5 to 36 (fun v3 v4 wd => (∃ d, wd = w.drewN d) ∧ Hid (gd = true))
  case first =>
    go_wp2_with fail
    go_loopw [3, 4] (fun v3 v4 wr => ∃ n d : Nat, v3 = .int .i64 n ∧ n ≤ b.op.length - 1 ∧ Hid (itemFind k b n = some gd) ∧ wr = w.drewN d) (fun v3 v4 wr => (intOf v3).toNat)
    case atStart => exact ⟨b.op.length - 1, 0, by rw [HZ.out], Nat.le_refl _, HF, rfl⟩
    case round =>
      obtain ⟨n, d, rfl, hn, hfn, rfl⟩ := hrel
      have hg := hfn.out
      cases n with
      | zero =>
        have hgd : true = gd := Option.some.inj hg
        have HGD := Lib.hid hgd.symm
        clear hg hfn hgd HF
        go_wp2_with fail
        go_meet
        case rel => exact ⟨⟨_, rfl⟩, HGD⟩
      | succ m =>
        rw [itemFind] at hg
        obtain ⟨nm, hnm, hg2⟩ := Option.bind_eq_some_iff.1 hg
        clear hg
        have hg := hg2
        clear hg2
        obtain ⟨gt, qt, go', oo', co', hA, i0, i1, r0, r1, ko, kn⟩ := BdEx.name H.out hnm
        have d0 := hA.cell0
        have d1 := hA.cell1
        have ee := Option.some.inj (c1.symm.trans d1)
        injection ee with ee _ ee3
        injection ee with ee
        injection ee with ee ee2
        subst ee
        subst ee2
        subst ee3
        clear d1
        rw [Int.toNat_natCast] at ko
        generalize rd b.op ((m + 1 : Nat) : Int) = x at *
        clear hA hfn hnm HF
        generalize hN : m + 1 = N at *
        have hm1 : (0 : Int) < (N : Int) := by omega
        have hm2 : 0 < N := by omega
        have hNi : (N : Int) < (b.op.length : Int) := by omega
        have HN := Lib.hid hN
        clear hN
        by_cases hli : nm.toList = wLi
        · rw [if_pos hli] at hg
          have hgd : true = gd := Option.some.inj hg
          have HGD := Lib.hid hgd.symm
          have hq : (nm.toList == ([108, 105] : List UInt8)) = true := beq_iff_eq.mpr hli
          clear hg hgd hli
          go_wp2_with fail
          go_quiet (fail)
          go_wp2_with fail
          go_meet
          case rel => exact ⟨⟨_, rfl⟩, HGD⟩
        · rw [if_neg hli] at hg
          obtain ⟨wv, hwv, hg2⟩ := Option.bind_eq_some_iff.1 hg
          clear hg
          have hg := hg2
          clear hg2
          have hq : (nm.toList == ([108, 105] : List UInt8)) = false := beq_eq_false_iff_ne.mpr hli
          have WC := fun (w1 : World) => tree_wall.calls k nm wv w1 hwv
          clear hwv hli
          have hr := HR.out
          cases wv
          · rw [if_neg (by decide)] at hg
            by_cases hm0 : m = 0
            · rw [if_pos hm0] at hg
              obtain rfl : false = gd := Option.some.inj hg
              rw [if_pos rfl] at hr
              obtain rfl := Option.some.inj hr
              have hq1 : ((N : Int) == 1) = true := by have := HN.out; rw [beq_iff_eq]; omega
              clear hg hr hm0
              go_wp2_with fail
              go_quiet (fail)
              go_wp2_with (go_at_call 95; refine (WC _).mono ?_; rintro e w2 ⟨rfl, ⟨nd2, rfl⟩⟩)
              (try rw [Exit.noGoto_ret])
              go_ret
              exact ⟨rfl, H.out.below (pw_below_drewN (Below.refl _ _) _), pw_below_drewN HB.out _, KeepBut.of_below (pw_below_drewN (Below.refl _ _) _) g none⟩
            · rw [if_neg hm0] at hg
              have HM := Lib.hid hg
              have hq1 : ((N : Int) == 1) = false := by have := HN.out; rw [beq_eq_false_iff_ne]; omega
              clear hg hr hm0
              go_wp2_with fail
              go_quiet (fail)
              go_wp2_with (go_at_call 95; refine (WC _).mono ?_; rintro e w2 ⟨rfl, ⟨nd2, rfl⟩⟩)
              refine ⟨⟨m, _, ?_, by have := HN.out; omega, HM, rfl⟩, ?_⟩
              · have := HN.out
                rw [show (N : Int) - 1 = (m : Int) by omega]
              · have := HN.out
                simp [intOf]
                omega
          · rw [if_pos rfl] at hg
            obtain rfl : false = gd := Option.some.inj hg
            rw [if_pos rfl] at hr
            obtain rfl := Option.some.inj hr
            clear hg hr
            go_wp2_with fail
            go_quiet (fail)
            go_wp2_with (go_at_call 95; refine (WC _).mono ?_; rintro e w2 ⟨rfl, ⟨nd2, rfl⟩⟩)
            (try rw [Exit.noGoto_ret])
            go_ret
            exact ⟨rfl, H.out.below (pw_below_drewN (Below.refl _ _) _), pw_below_drewN HB.out _, KeepBut.of_below (pw_below_drewN (Below.refl _ _) _) g none⟩
  case rest =>
    obtain ⟨⟨d, rfl⟩, hgd⟩ := hcut
    have hr := HR.out
    rw [hgd.out, if_neg (by decide)] at hr
    clear HF HR hgd
    have H1 := Lib.hid (H.out.below (pw_below_drewN (Below.refl _ _) d))
    have HB1 := Lib.hid (pw_below_drewN HB.out d)
    have HK1 : Hid (KeepBut w (w.drewN d) g none) := Lib.hid (KeepBut.of_below (pw_below_drewN (Below.refl _ _) _) g none)
    by_cases h1 : b.op.length = 1
    · rw [if_pos h1] at hr
      obtain rfl := Option.some.inj hr
      have hq : ((b.op.length : Int) == 1) = true := by rw [beq_iff_eq]; omega
      clear hr h1
      go_wp2_with fail
      (try rw [Exit.noGoto_ret])
      go_ret
      exact ⟨rfl, H1.out, HB1.out, HK1.out⟩
    · rw [if_neg h1] at hr
      have hq : ((b.op.length : Int) == 1) = false := by rw [beq_eq_false_iff_ne]; omega
      obtain ⟨b1, hb1, hr2⟩ := Option.bind_eq_some_iff.1 hr
      obtain ⟨nm1, hn1, hr3⟩ := Option.bind_eq_some_iff.1 hr2
      have HP := Lib.hid hb1
      clear hr hr2 hb1 h1
      go_upto_block 3 with fail
      go_cut [43] from 44 to 50 (fun v43 wd => Hid (BdEx B g b1 wd) ∧ Hid (Below B w0 wd) ∧ Hid (KeepBut w wd g none))
      case first =>
        go_wp2_with fail
        go_loopg [43] k (fun kq v43 wr => ∃ b2 : Bs, Hid (popPs kq b2 = some b1) ∧ Hid (BdEx B g b2 wr) ∧ Hid (Below B w0 wr) ∧ Hid (KeepBut w wr g none))
        case atStart => exact ⟨b, HP, H1, HB1, HK1⟩
        case round =>
          obtain ⟨b2, hp2, hE, hBl, hKb⟩ := hrel
          have hg := hp2.out
          cases gk with
          | zero => simp [popPs] at hg
          | succ k3 =>
            rw [popPs] at hg
            obtain ⟨nm, hnm, hg2⟩ := Option.bind_eq_some_iff.1 hg
            obtain ⟨gt, qt, vo2, hA, hok, kn⟩ := hE.out.top hnm
            have TC := fun (w' : World) (hb' : Below wr.heap.size wr w') => top_calls B g gt qt b2 vo2 w' (hA.below hb') hok
            have PC := fun (w' : World) (hb' : Below wr.heap.size wr w') (hb2 : Below B w0 w') => pop_calls B g b2 w0 w' (hE.out.below hb') hok.1 hb2 hB
            clear hg hp2 hA hok
            by_cases hpp : nm.toList = wP
            · rw [if_pos hpp] at hg2
              have HM := Lib.hid hg2
              have hq2 : (nm.toList == ([112] : List UInt8)) = true := beq_iff_eq.mpr hpp
              clear hg2 hpp
              go_wp2_with (first | (go_at_call 71; refine (TC _ (Below.refl _ _)).mono ?_; rintro e w3 ⟨rfl, ⟨nd3, rfl⟩⟩) | (go_at_call 72; refine (PC _ (pw_below_drewN (Below.refl _ _) _) (pw_below_drewN hBl.out _)).mono ?_; rintro e w4 ⟨rfl, h4, b4, kp4⟩))
              go_roundg k3
              case measure => omega
              case rel => exact ⟨_, HM, Lib.hid h4, Lib.hid b4, Lib.hid ((keep_drewN hKb.out _).trans kp4 (.inl rfl))⟩
            · rw [if_neg hpp] at hg2
              obtain rfl := Option.some.inj hg2
              have hq2 : (nm.toList == ([112] : List UInt8)) = false := beq_eq_false_iff_ne.mpr hpp
              clear hg2 hpp
              go_wp2_with (first | (go_at_call 71; refine (TC _ (Below.refl _ _)).mono ?_; rintro e w3 ⟨rfl, ⟨nd3, rfl⟩⟩))
              go_meet
              case rel => exact ⟨Lib.hid (hE.out.below (pw_below_drewN (Below.refl _ _) _)), Lib.hid (pw_below_drewN hBl.out _), Lib.hid (keep_drewN hKb.out _)⟩
      case rest =>
        obtain ⟨hE, hBl, hKb⟩ := hcut
        obtain ⟨gt, qt, vo2, hA, hok, kn⟩ := hE.out.top hn1
        have TC := fun (w' : World) (hb' : Below wc.heap.size wc w') => top_calls B g gt qt b1 vo2 w' (hA.below hb') hok
        have PC := fun (w' : World) (hb' : Below wc.heap.size wc w') (hb2 : Below B w0 w') => pop_calls B g b1 w0 w' (hE.out.below hb') hok.1 hb2 hB
        clear hA hok hn1
        by_cases hli : nm1.toList = wLi
        · rw [if_pos hli] at hr3
          obtain rfl := Option.some.inj hr3
          have hq2 : (nm1.toList != ([108, 105] : List UInt8)) = false := bne_eq_false_iff_eq.mpr hli
          have hq3 : (nm1.toList == ([108, 105] : List UInt8)) = true := beq_iff_eq.mpr hli
          clear hr3 hli
          go_wp2_with (first | (go_at_call 71; refine (TC _ (Below.refl _ _)).mono ?_; rintro e w3 ⟨rfl, ⟨nd3, rfl⟩⟩) | (go_at_call 72; refine (PC _ (pw_below_drewN (Below.refl _ _) _) (pw_below_drewN hBl.out _)).mono ?_; rintro e w4 ⟨rfl, h4, b4, kp4⟩))
          (try rw [Exit.noGoto_ret])
          go_ret
          exact ⟨rfl, h4, b4, (keep_drewN hKb.out _).trans kp4 (.inl rfl)⟩
        · rw [if_neg hli] at hr3
          obtain rfl := Option.some.inj hr3
          have hq2 : (nm1.toList != ([108, 105] : List UInt8)) = true := bne_iff_ne.mpr hli
          have hq3 : (nm1.toList == ([108, 105] : List UInt8)) = false := beq_eq_false_iff_ne.mpr hli
          clear hr3 hli
          go_wp2_with (first | (go_at_call 71; refine (TC _ (Below.refl _ _)).mono ?_; rintro e w3 ⟨rfl, ⟨nd3, rfl⟩⟩))
          (try rw [Exit.noGoto_ret])
          go_ret
          exact ⟨rfl, hE.out.below (pw_below_drewN (Below.refl _ _) _), pw_below_drewN hBl.out _, keep_drewN hKb.out _⟩
end Go.Proofs.YtpfhgolamlnhiaaGreatDoor
