/- tree.builder.end: an end tag. -/
import Derived.Test.YtpfhgolamlnhiaaGreatDoorTreeE
import Derived.Test.YtpfhgolamlnhiaaGreatDoorTreeB
import Derived.Test.YtpfhgolamlnhiaaGreatDoorTreeH
set_option linter.unusedVariables false
set_option linter.unusedSimpArgs false
namespace Go.Proofs.YtpfhgolamlnhiaaGreatDoor
open Go.RowKit Go.Proofs.YtpfhgolamlnhiaaGreatDoorW.PrintWords Go.Proofs.YtpfhgolamlnhiaaGreatDoor.XT Go.Proofs.YtpfhgolamlnhiaaGreatDoor.XA

theorem endPop_top {kd : Int} {f : Nat} {b b1 : Bs} (h : endPop kd f b = some b1) : ∃ nm, topName b = some nm := by
  cases f with
  | zero => simp [endPop] at h
  | succ f =>
    rw [endPop] at h
    obtain ⟨nm, hnm, _⟩ := Option.bind_eq_some_iff.1 h
    exact ⟨nm, hnm⟩
set_option maxHeartbeats 8000000 in
set_option maxRecDepth 100000 in
theorem end2_calls (B g k : Nat) (b : Bs) (name : ByteArray) (r : Int × Bs) (w0 w : World) (h : BdEx B g b w) (hb : Below B w0 w) (hB : B ≤ g) (hr : endB k b name = some r) :
    Calls Tryz.prog 40 #[.pointer (some ⟨g, 0, none⟩), .string name] w fun e w' => e = .returned (.int .i64 r.1) ∧ BdEx B g r.2 w' ∧ Below B w0 w' := by
  unfold endB at hr
  obtain ⟨kd, hkd, hr2⟩ := Option.bind_eq_some_iff.1 hr
  have H := Lib.hid h
  have HB := Lib.hid hb
  have KC := fun (w1 : World) => tree_Kind.calls k name kd w1 hkd
  clear h hb hr hkd
  by_cases h0 : kd = 0
  · rw [if_pos h0] at hr2
    obtain rfl := Option.some.inj hr2
    subst h0
    clear hr2
    go_enter Tryz.func40, Tryz.ntmps40
    go_wp2_with (go_at_call 57; refine (KC _).mono ?_; rintro e w1 ⟨rfl, ⟨nd, rfl⟩⟩)
    go_ret
    exact ⟨rfl, H.out.below (pw_below_drewN (Below.refl _ _) _), pw_below_drewN HB.out _⟩
  · rw [if_neg h0] at hr2
    have q0 : (kd == 0) = false := beq_eq_false_iff_ne.mpr h0
    by_cases h7 : 7 ≤ kd
    · rw [if_pos h7] at hr2
      obtain rfl := Option.some.inj hr2
      clear hr2 h0
      go_enter Tryz.func40, Tryz.ntmps40
      go_wp2_with (go_at_call 57; refine (KC _).mono ?_; rintro e w1 ⟨rfl, ⟨nd, rfl⟩⟩)
      go_ret
      exact ⟨rfl, H.out.below (pw_below_drewN (Below.refl _ _) _), pw_below_drewN HB.out _⟩
    · rw [if_neg h7] at hr2
      obtain ⟨b1, hb1, hr3⟩ := Option.bind_eq_some_iff.1 hr2
      obtain ⟨nm1, hn1, hr4⟩ := Option.bind_eq_some_iff.1 hr3
      obtain ⟨nm0, hn0⟩ := endPop_top hb1
      obtain ⟨gt, qt, vo2, hA, hok, kn⟩ := H.out.top hn0
      have TC0 := fun (w' : World) (hb' : Below w.heap.size w w') => top_calls B g gt qt b vo2 w' (hA.below hb') hok
      have HP := Lib.hid hb1
      have HN0 := Lib.hid hn0
      clear hr2 hr3 hb1 h0 hA hok hn0
      go_enter Tryz.func40, Tryz.ntmps40
      go_upto_block 1 with (first | (go_at_call 57; refine (KC _).mono ?_; rintro e w1 ⟨rfl, ⟨nd, rfl⟩⟩) | (go_at_call 71; refine (TC0 _ (pw_below_drewN (Below.refl _ _) _)).mono ?_; rintro e w3 ⟨rfl, ⟨nd3, rfl⟩⟩))
      go_cut [6] from 20 to 44 (fun v6 wd => Hid (BdEx B g b1 wd) ∧ Hid (Below B w0 wd))
      case first =>
        go_wp2_with fail
        go_loopg [6] k (fun kq v6 wr => ∃ (b2 : Bs) (nm : ByteArray), v6 = .string nm ∧ Hid (topName b2 = some nm) ∧ Hid (endPop kd kq b2 = some b1) ∧ Hid (BdEx B g b2 wr) ∧ Hid (Below B w0 wr))
        case atStart => exact ⟨b, nm0, rfl, HN0, HP, Lib.hid (H.out.below (pw_below_drewN (Below.refl _ _) _)), Lib.hid (pw_below_drewN HB.out _)⟩
        case round =>
          obtain ⟨b2, nm, rfl, hnm, hp2, hE, hBl⟩ := hrel
          have hg := hp2.out
          cases gk with
          | zero => simp [endPop] at hg
          | succ k3 =>
            rw [endPop, hnm.out, Option.bind_some] at hg
            clear hp2
            obtain ⟨gt3, qt3, vo3, hA3, hok3, kn3⟩ := hE.out.top hnm.out
            have hop3 := hok3.1
            clear hA3 hok3 kn3
            have PC := fun (w' : World) (hb2 : Below B w0 w') (he : BdEx B g b2 w') => pop_calls B g b2 w0 w' he hop3 hb2 hB
            by_cases e1 : kd = 1
            · have q1 : (kd == 1) = true := beq_iff_eq.mpr e1
              by_cases eP : nm.toList = wP
              · have qP : (nm.toList == ([112] : List UInt8)) = true := beq_iff_eq.mpr eP
                rw [if_pos (.inl ⟨e1, .inl eP⟩)] at hg
                obtain ⟨nm2, hnm2⟩ := endPop_top hg
                have HM := Lib.hid hg
                have HN2 := Lib.hid hnm2
                clear hg hnm2 e1 eP
                go_wp2_with (first | (go_at_call 72; refine (PC _ hBl.out hE.out).mono ?_; rintro e w4 ⟨rfl, h4, b4, kp4⟩; obtain ⟨gt4, qt4, vo4, hA4, hok4, kn4⟩ := h4.top HN2.out; have TC4 := top_calls B g gt4 qt4 _ vo4 _ hA4 hok4; have H4 := Lib.hid h4; clear hA4 hok4 h4) | (go_at_call 71; refine TC4.mono ?_; rintro e w5 ⟨rfl, ⟨nd5, rfl⟩⟩))
                go_roundg k3
                case measure => omega
                case rel => exact ⟨_, nm2, rfl, HN2, HM, Lib.hid (H4.out.below (pw_below_drewN (Below.refl _ _) _)), Lib.hid (pw_below_drewN b4 _)⟩
              · have qP : (nm.toList == ([112] : List UInt8)) = false := beq_eq_false_iff_ne.mpr eP
                by_cases eL : nm.toList = wLi
                · have qL : (nm.toList == ([108, 105] : List UInt8)) = true := beq_iff_eq.mpr eL
                  rw [if_pos (.inl ⟨e1, .inr eL⟩)] at hg
                  obtain ⟨nm2, hnm2⟩ := endPop_top hg
                  have HM := Lib.hid hg
                  have HN2 := Lib.hid hnm2
                  clear hg hnm2 e1 eP eL
                  go_wp2_with (first | (go_at_call 72; refine (PC _ hBl.out hE.out).mono ?_; rintro e w4 ⟨rfl, h4, b4, kp4⟩; obtain ⟨gt4, qt4, vo4, hA4, hok4, kn4⟩ := h4.top HN2.out; have TC4 := top_calls B g gt4 qt4 _ vo4 _ hA4 hok4; have H4 := Lib.hid h4; clear hA4 hok4 h4) | (go_at_call 71; refine TC4.mono ?_; rintro e w5 ⟨rfl, ⟨nd5, rfl⟩⟩))
                  go_roundg k3
                  case measure => omega
                  case rel => exact ⟨_, nm2, rfl, HN2, HM, Lib.hid (H4.out.below (pw_below_drewN (Below.refl _ _) _)), Lib.hid (pw_below_drewN b4 _)⟩
                · have qL : (nm.toList == ([108, 105] : List UInt8)) = false := beq_eq_false_iff_ne.mpr eL
                  have q3 : (kd == 3) = false := beq_eq_false_iff_ne.mpr (by omega)
                  rw [if_neg (by rintro (⟨_, h | h⟩ | ⟨h, _⟩); exact eP h; exact eL h; omega)] at hg
                  obtain rfl := Option.some.inj hg
                  clear hg e1 eP eL
                  go_wp2_with fail
                  go_meet
                  case rel => exact ⟨hE, hBl⟩
            · have q1 : (kd == 1) = false := beq_eq_false_iff_ne.mpr e1
              by_cases e3 : kd = 3
              · have q3 : (kd == 3) = true := beq_iff_eq.mpr e3
                by_cases eP : nm.toList = wP
                · have qP : (nm.toList == ([112] : List UInt8)) = true := beq_iff_eq.mpr eP
                  rw [if_pos (.inr ⟨e3, eP⟩)] at hg
                  obtain ⟨nm2, hnm2⟩ := endPop_top hg
                  have HM := Lib.hid hg
                  have HN2 := Lib.hid hnm2
                  clear hg hnm2 e1 e3 eP
                  go_wp2_with (first | (go_at_call 72; refine (PC _ hBl.out hE.out).mono ?_; rintro e w4 ⟨rfl, h4, b4, kp4⟩; obtain ⟨gt4, qt4, vo4, hA4, hok4, kn4⟩ := h4.top HN2.out; have TC4 := top_calls B g gt4 qt4 _ vo4 _ hA4 hok4; have H4 := Lib.hid h4; clear hA4 hok4 h4) | (go_at_call 71; refine TC4.mono ?_; rintro e w5 ⟨rfl, ⟨nd5, rfl⟩⟩))
                  go_roundg k3
                  case measure => omega
                  case rel => exact ⟨_, nm2, rfl, HN2, HM, Lib.hid (H4.out.below (pw_below_drewN (Below.refl _ _) _)), Lib.hid (pw_below_drewN b4 _)⟩
                · have qP : (nm.toList == ([112] : List UInt8)) = false := beq_eq_false_iff_ne.mpr eP
                  rw [if_neg (by rintro (⟨h, _⟩ | ⟨_, h⟩); exact e1 h; exact eP h)] at hg
                  obtain rfl := Option.some.inj hg
                  clear hg e1 e3 eP
                  go_wp2_with fail
                  go_meet
                  case rel => exact ⟨hE, hBl⟩
              · have q3 : (kd == 3) = false := beq_eq_false_iff_ne.mpr e3
                rw [if_neg (by rintro (⟨h, _⟩ | ⟨h, _⟩); exact e1 h; exact e3 h)] at hg
                obtain rfl := Option.some.inj hg
                clear hg e1 e3
                go_wp2_with fail
                go_meet
                case rel => exact ⟨hE, hBl⟩
      case rest =>
        obtain ⟨hE, hBl⟩ := hcut
        obtain ⟨gt5, qt5, vo5, hA, hok, kn5⟩ := hE.out.top hn1
        have TC := fun (w' : World) (hb' : Below wc.heap.size wc w') => top_calls B g gt5 qt5 b1 vo5 w' (hA.below hb') hok
        have PC := fun (w' : World) (hb' : Below wc.heap.size wc w') (hb2 : Below B w0 w') => pop_calls B g b1 w0 w' (hE.out.below hb') hok.1 hb2 hB
        clear hA hok hn1
        by_cases hli : nm1.toList = name.toList
        · rw [if_pos hli] at hr4
          obtain rfl := Option.some.inj hr4
          have hq2 : (nm1.toList != name.toList) = false := bne_eq_false_iff_eq.mpr hli
          have hq3 : (nm1.toList == name.toList) = true := beq_iff_eq.mpr hli
          clear hr4 hli
          go_wp2_with (first | (go_at_call 71; refine (TC _ (Below.refl _ _)).mono ?_; rintro e w3 ⟨rfl, ⟨nd3, rfl⟩⟩) | (go_at_call 72; refine (PC _ (pw_below_drewN (Below.refl _ _) _) (pw_below_drewN hBl.out _)).mono ?_; rintro e w4 ⟨rfl, h4, b4, kp4⟩))
          go_ret
          exact ⟨rfl, h4, b4⟩
        · rw [if_neg hli] at hr4
          obtain rfl := Option.some.inj hr4
          have hq2 : (nm1.toList != name.toList) = true := bne_iff_ne.mpr hli
          have hq3 : (nm1.toList == name.toList) = false := beq_eq_false_iff_ne.mpr hli
          clear hr4 hli
          go_wp2_with (first | (go_at_call 71; refine (TC _ (Below.refl _ _)).mono ?_; rintro e w3 ⟨rfl, ⟨nd3, rfl⟩⟩))
          go_ret
          exact ⟨rfl, hE.out.below (pw_below_drewN (Below.refl _ _) _), pw_below_drewN hBl.out _⟩
end Go.Proofs.YtpfhgolamlnhiaaGreatDoor

set_option linter.unusedVariables false
set_option linter.unusedSimpArgs false
namespace Go.Proofs.YtpfhgolamlnhiaaGreatDoor
open Go.RowKit Go.Proofs.YtpfhgolamlnhiaaGreatDoorW.PrintWords Go.Proofs.YtpfhgolamlnhiaaGreatDoorW.PrintLast Go.Proofs.YtpfhgolamlnhiaaGreatDoor.XT Go.Proofs.YtpfhgolamlnhiaaGreatDoor.XA

set_option maxHeartbeats 4000000 in
set_option maxRecDepth 100000 in
theorem text2_calls (B g : Nat) (b : Bs) (data : ByteArray) (r : Int × Bs) (w0 w : World) (h : BdEx B g b w) (hb : Below B w0 w) (hB : B ≤ g) (hBw : B ≤ w.heap.size) (hr : textB b data = some r) :
    Calls Tryz.prog 41 #[.pointer (some ⟨g, 0, none⟩), .string data] w fun e w' => e = .returned (.int .i64 r.1) ∧ (r.1 = 0 → BdEx B g r.2 w') ∧ Below B w0 w' := by
  obtain ⟨vt, vo, h⟩ := h
  unfold textB at hr
  by_cases hd : data.toList.isEmpty = true
  · rw [if_pos hd] at hr
    obtain rfl := Option.some.inj hr
    have H := Lib.hid h
    clear h hr
    go_enter Tryz.func41, Tryz.ntmps41
    go_wp2_with fail
    go_ret
    exact ⟨rfl, fun _ => ⟨vt, vo, H.out⟩, hb⟩
  · rw [if_neg hd] at hr
    have hd' : data.toList.isEmpty = false := by simpa using hd
    split at hr
    case isFalse => cases hr
    rename_i hok
    have HOK := Lib.hid hok
    obtain ⟨k1, k2, k3⟩ := hok
    obtain ⟨gt, qt, rfl⟩ := h.tform (by omega)
    have TC := fun (w' : World) (hb' : Below w.heap.size w w') => top_calls B g gt qt b vo w' (h.below hb') HOK.out
    have AC : ∀ w', Below w.heap.size w w' → ∀ r, addB b ⟨2, ⟨#[]⟩, [], data, 0, []⟩ = some r → _ := fun w' hb' r hr => add_calls B g b ⟨2, ⟨#[]⟩, [], data, 0, []⟩ 0 (.slice none 0 0) (fun _ => False) r _ vo w0 w' (h.below hb') (below_then hb hBw hb') hB rfl (Kd.R_nil _ _ _ _ _) (fun _ hk => hk.elim) (Kd.S_mono (h.below hb').t (fun k hk => ⟨hk, id⟩)) (fun _ hk => hk.elim) (Nat.le_trans hBw hb'.size) hr
    dsimp only at AC
    obtain ⟨oki, v2, v5, hR2, hR5, hoki, hcc, hfr, hH⟩ := node_lend h.t (topI b) k2 k3
    obtain ⟨A5, q5, rfl⟩ := Kd.R_slice hR5
    have c5 := hcc 5 _ rfl
    change w.cell? ⟨gt, (topI b).toNat * 6 + 5, none⟩ = some (.slice A5 (topN b).f5.length q5) at c5
    have hR5' : Kd.R (Kd.int .i64) 3 w B oki (.slice A5 (topN b).f5.length q5) (topN b).f5 := hR5
    have H := Lib.hid h
    have hE : rd_T38 b.t (topI b) = topN b := rfl
    clear hcc hfr hH hR2 hR5 h hE
    by_cases h5 : 0 < (topN b).f5.length
    · rw [if_pos h5] at hr
      dsimp only at hr
      obtain ⟨g5, q5', e5, -⟩ := Kd.R_form hR5' h5
      injection e5 with e5 _ e6
      subst e5
      obtain ⟨ad, ea, ck⟩ := Kd.at_int (Kd.R_reads' hR5').2.2 (((topN b).f5.length : Int) - 1) (by omega) (by omega)
      injection ea with ea
      subst ea
      rw [add_at, Nat.zero_add, show (((topN b).f5.length : Int) - 1).toNat = (topN b).f5.length - 1 by omega] at ck
      have hl5 : (topN b).f5.length ≤ 9223372036854775807 := (Kd.R_reads' hR5').2.2.2.1
      have b0 : (1 : Int) ≤ ((topN b).f5.length : Int) := by omega
      have b1 : (0 : Int) < ((topN b).f5.length : Int) := by omega
      have e2 : (((topN b).f5.length : Int) - 1).toNat = (topN b).f5.length - 1 := by omega
      have hw : IntKind.i64.wrap (((topN b).f5.length : Int) - 1) = ((topN b).f5.length : Int) - 1 := IntWalk.i64_in _ (by omega)
      generalize rd (topN b).f5 (((topN b).f5.length : Int) - 1) = j at *
      generalize (topN b).f5.length = L5 at *
      split at hr
      case isFalse => cases hr
      rename_i hj
      obtain ⟨j0, j1⟩ := hj
      obtain ⟨okj, u2, u5, hJ2, hJ5, hokj, hjc, hjf, hHj⟩ := node_lend H.out.t j j0 j1
      have kk0 : w.cell? ⟨gt, j.toNat * 6, none⟩ = some (.int .u8 (rd_T38 b.t j).f0) := hjc 0 _ rfl
      have kk3 : w.cell? ⟨gt, j.toNat * 6 + 3, none⟩ = some (.string (rd_T38 b.t j).f3) := hjc 3 _ rfl
      have kf3 := hjf 3
      have c0 := H.out.cell0
      have hM3 : ∀ x : ByteArray, (k38).M w B okj { rd_T38 b.t j with f3 := x } [.int .u8 (rd_T38 b.t j).f0, .string (rd_T38 b.t j).f1, u2, .string x, .int .i64 (rd_T38 b.t j).f4, u5] := fun x => k38_mkM w B okj { rd_T38 b.t j with f3 := x } hJ2 hJ5
      have SG := fun x : ByteArray => Lib.hid (Kd.S_seg (okg := fun _ => False) (Kd.H_mono hHj (fun k hk => ⟨hk, id⟩)) j0 j1 (seg := [Value.string x]) (j := 3) (by show 3 + 1 ≤ 6; omega) (hM3 x) (fun k hk => Or.inl hk) (fun k hk => hk.elim))
      clear hjc hjf hHj hJ2 hJ5 hM3 hR5'
      by_cases h2 : (rd_T38 b.t j).f0 = 2
      · rw [if_pos h2] at hr
        split at hr
        case isFalse => cases hr
        rename_i hsz
        obtain rfl := Option.some.inj hr
        have hq : ((rd_T38 b.t j).f0 == 2) = true := by rw [beq_iff_eq]; exact h2
        clear hr
        go_enter Tryz.func41, Tryz.ntmps41
        go_wp2_with (go_at_call 71; refine (TC _ (Below.refl _ _)).mono ?_; rintro e w1 ⟨rfl, ⟨nd1, rfl⟩⟩)
        go_quiet (fail)
        go_wp2_with fail
        have hS := (SG ((rd_T38 b.t j).f3 ++ data)).out
        obtain ⟨tcs, htc⟩ := Kd.S_typed H.out.t gt (by simp [Value.ownBlock])
        have hggt : some g ≠ some gt := Kd.S_ne H.out.t H.out.box (by decide)
        have hop := Kd.Q_grown1 H.out.op rfl hS.2 (Kd.Q_ne H.out.op htc (by decide))
        have hgt := Kd.S_base H.out.t gt (by simp [Value.ownBlock])
        go_ret
        exact ⟨rfl, fun _ => ⟨_, _, (blk_grown H.out.box hS.2 hggt : _), Kd.S_drewN hS.1 _, Kd.Q_drewN hop _⟩, (pw_below_drewN hb _).setCell hgt _⟩
      · rw [if_neg h2] at hr
        have hq : ((rd_T38 b.t j).f0 == 2) = false := by rw [beq_eq_false_iff_ne]; exact h2
        clear SG
        go_enter Tryz.func41, Tryz.ntmps41
        go_wp2_with (go_at_call 71; refine (TC _ (Below.refl _ _)).mono ?_; rintro e w1 ⟨rfl, ⟨nd1, rfl⟩⟩)
        go_quiet (fail)
        go_wp2_with (go_at_call 73; refine (AC _ (pw_below_drewN (Below.refl _ _) _) r hr).mono ?_; rintro e w3 ⟨rfl, h3, b3⟩)
        go_ret
        exact ⟨rfl, h3, b3⟩
    · rw [if_neg h5] at hr
      have hL : (topN b).f5.length = 0 := by omega
      rw [hL] at c5
      clear hL h5 hR5'
      go_enter Tryz.func41, Tryz.ntmps41
      go_wp2_with (first | (go_at_call 71; refine (TC _ (Below.refl _ _)).mono ?_; rintro e w1 ⟨rfl, ⟨nd1, rfl⟩⟩) | (go_at_call 73; refine (AC _ (pw_below_drewN (Below.refl _ _) _) r hr).mono ?_; rintro e w3 ⟨rfl, h3, b3⟩))
      go_ret
      exact ⟨rfl, h3, b3⟩
end Go.Proofs.YtpfhgolamlnhiaaGreatDoor

set_option linter.unusedVariables false
set_option linter.unusedSimpArgs false
namespace Go.Proofs.YtpfhgolamlnhiaaGreatDoor
open Go.RowKit Go.Proofs.YtpfhgolamlnhiaaGreatDoorW.PrintWords Go.Proofs.YtpfhgolamlnhiaaGreatDoor.XT Go.Proofs.YtpfhgolamlnhiaaGreatDoor.XA

/-- The first builder. -/
theorem bs0_at (w : World) : BdAt w.heap.size (w.heap.size + 1 + 1) bs0 (.slice (some ⟨w.heap.size, 0, none⟩) 1 1) (.slice (some ⟨w.heap.size + 1, 0, none⟩) 1 1) (((w.alloc (.cells #[.int .u8 0, .string ⟨#[]⟩, .slice none 0 0, .string ⟨#[]⟩, .int .i64 (-1), .slice none 0 0] 38)).alloc (.cells #[.int .i64 0] 3)).alloc (.cells #[.slice (some ⟨w.heap.size, 0, none⟩) 1 1, .slice (some ⟨w.heap.size + 1, 0, none⟩) 1 1, .slice none 0 0] 60)) := by
  have s1 : (w.alloc (.cells #[.int .u8 0, .string ⟨#[]⟩, .slice none 0 0, .string ⟨#[]⟩, .int .i64 (-1), .slice none 0 0] 38)).heap.size = w.heap.size + 1 := by simp
  have s2 : ((w.alloc (.cells #[.int .u8 0, .string ⟨#[]⟩, .slice none 0 0, .string ⟨#[]⟩, .int .i64 (-1), .slice none 0 0] 38)).alloc (.cells #[.int .i64 0] 3)).heap.size = w.heap.size + 1 + 1 := by simp
  have o1 := World.ownsRow_lit (base := w.heap.size) (e := 38) (size := 6) w #[.int .u8 0, .string ⟨#[]⟩, .slice none 0 0, .string ⟨#[]⟩, .int .i64 (-1), .slice none 0 0] 1 (Nat.le_refl _) (by decide) (by decide)
  have o2 := World.ownsRow_lit (base := w.heap.size) (e := 3) (size := 1) (w.alloc (.cells #[.int .u8 0, .string ⟨#[]⟩, .slice none 0 0, .string ⟨#[]⟩, .int .i64 (-1), .slice none 0 0] 38)) #[.int .i64 0] 1 (by rw [s1]; omega) (by decide) (by decide)
  rw [s1] at o2
  refine ⟨by rw [← s2]; exact blk_new _ _, ?_, ?_⟩
  · refine ⟨fun _ => 0, fun k hk => ?_, _, own_alloc (own_alloc o1 _) _, rfl, fun j p hj => ?_⟩
    · intro e
      rw [← hk] at e
      simp [Value.ownBlock] at e
    · have hj0 : j = 0 := by
        have := (List.getElem?_eq_some_iff.1 hj).1
        simp [bs0] at this
        omega
      subst hj0
      obtain rfl : (⟨0, ⟨#[]⟩, [], ⟨#[]⟩, -1, []⟩, 0) = p := by
        have : (bs0.t.zipIdx)[0]? = some (⟨0, ⟨#[]⟩, [], ⟨#[]⟩, -1, []⟩, 0) := rfl
        exact Option.some.inj (this.symm.trans hj)
      exact k38_mkM _ _ _ ⟨0, ⟨#[]⟩, [], ⟨#[]⟩, -1, []⟩ (Kd.R_nil _ _ _ _ _) (Kd.R_nil _ _ _ _ _)
  · exact Kd.Q_of_R (Kd.R_of_own (enc := Value.int .i64) (h1 := fun _ => rfl) (xs := ([0] : List Int)) (own_alloc o2 _) (fun _ _ => trivial))
theorem buildGo_drop {k i : Nat} {l : List S25} {b : Bs} {res : List NodeD × Int × Int} (hlt : i < l.length) (h : buildGo k (l.drop i) i b = some res) :
    ∃ r, tokB k b i (rd_T25 l i) = some r ∧ (if r.1 = 0 then buildGo k (l.drop (i + 1)) ((i + 1 : Nat) : Int) r.2 = some res else ([], r.1, (i : Int)) = res) := by
  rw [List.drop_eq_getElem_cons hlt, buildGo] at h
  have hr : rd_T25 l (i : Int) = l[i] := by
    unfold rd_T25
    simp [List.getD_eq_getElem?_getD, hlt]
  rw [hr]
  obtain ⟨r, h1, h2⟩ := Option.bind_eq_some_iff.1 h
  refine ⟨r, h1, ?_⟩
  by_cases h0 : r.1 = 0
  · rw [if_pos h0] at h2 ⊢
    exact h2
  · rw [if_neg h0] at h2 ⊢
    exact Option.some.inj h2
set_option maxHeartbeats 8000000 in
set_option maxRecDepth 100000 in
theorem build_calls (k : Nat) (A : Option Addr) (c : Nat) (l : List S25) (t : List NodeD) (er pl : Int) (w : World) (hr : Kd.C k25 w A l.length l) (hc : l.length ≤ c) (h : buildK k l = some (t, er, pl)) :
    Calls Tryz.prog 14 #[.slice A l.length c] w fun e w' => ∃ A' c', e = .returned (.tuple #[.slice A' t.length c', .int .i64 er, .int .i64 pl]) ∧ t.length ≤ c' ∧ Kd.C k38 w' A' t.length t ∧ Below w.heap.size w w' := by
  have hlen : l.length ≤ 9223372036854775807 := hr.2.1
  have HR := Lib.hid hr
  have HH : Hid (buildGo k (l.drop 0) ((0 : Nat) : Int) bs0 = some (t, er, pl)) := Lib.hid h
  have H0 := Lib.hid (bs0_at w)
  have HB : Hid (Below w.heap.size w (((w.alloc (.cells #[.int .u8 0, .string ⟨#[]⟩, .slice none 0 0, .string ⟨#[]⟩, .int .i64 (-1), .slice none 0 0] 38)).alloc (.cells #[.int .i64 0] 3)).alloc (.cells #[.slice (some ⟨w.heap.size, 0, none⟩) 1 1, .slice (some ⟨w.heap.size + 1, 0, none⟩) 1 1, .slice none 0 0] 60))) := Lib.hid (below_alloc (below_alloc (below_alloc (Below.refl _ _) _) _) _)
  clear hr h
  go_enter Tryz.func14, Tryz.ntmps14
  go_wp2_with fail
  generalize hgd : w.heap.size + 1 + 1 = g at *
  have hg0 : w.heap.size ≤ g := by omega
  clear hgd
  go_loopw [16, 6, 7, 8] (fun v16 v6 v7 v8 wr => ∃ (i : Nat) (b : Bs), v16 = .int .i64 i ∧ i ≤ l.length ∧ Hid (buildGo k (l.drop i) (i : Int) b = some (t, er, pl)) ∧ Hid (BdEx w.heap.size g b wr) ∧ Hid (Below w.heap.size w wr)) (fun v16 v6 v7 v8 wr => l.length - (intOf v16).toNat)
  case atStart => exact ⟨0, bs0, rfl, Nat.zero_le _, HH, Lib.hid ⟨_, _, H0.out⟩, HB⟩
  case round =>
    obtain ⟨i, b, rfl, hi, hgo, hE, hBl⟩ := hrel
    by_cases hlt : i < l.length
    · obtain ⟨r, htk, hnx⟩ := buildGo_drop hlt hgo.out
      obtain ⟨ad, A2, c2, rfl, x0, x1, x2, x3, x4, l2, hC2⟩ := at_T25 HR.out (i : Int) (by omega) (by omega)
      simp only [Int.toNat_natCast] at x0 x1 x2 x3 x4
      have y0 := pw_cell_below hBl.out x0
      have y1 := pw_cell_below hBl.out x1
      have y2 := pw_cell_below hBl.out x2
      have y3 := pw_cell_below hBl.out x3
      have y4 := pw_cell_below hBl.out x4
      clear x0 x1 x2 x3 x4
      generalize rd_T25 l (i : Int) = tok at *
      have hwa : ∀ o : Obj, Below wr.heap.size wr (wr.alloc o) := fun o => below_alloc (Below.refl _ _) o
      have SC := fun (o : Obj) (hs : startB k b tok = some r) => start2_calls g k b tok A2 c2 r w (wr.alloc o) (hE.out.below (hwa o)) (below_then hBl.out hBl.out.size (hwa o)) hg0 hC2 l2 hs
      have EC := fun (o : Obj) (hs : endB k b tok.f1 = some r) => end2_calls w.heap.size g k b tok.f1 r w (wr.alloc o) (hE.out.below (hwa o)) (below_then hBl.out hBl.out.size (hwa o)) hg0 hs
      have TC := fun (o : Obj) (hs : textB b tok.f4 = some r) => text2_calls w.heap.size g b tok.f4 r w (wr.alloc o) (hE.out.below (hwa o)) (below_then hBl.out hBl.out.size (hwa o)) hg0 (Nat.le_trans hBl.out.size (hwa o).size) hs
      have hbo : ∀ o : Obj, Below w.heap.size w (wr.alloc o) := fun o => below_then hBl.out hBl.out.size (hwa o)
      have hEo : ∀ o : Obj, BdEx w.heap.size g b (wr.alloc o) := fun o => hE.out.below (hwa o)
      unfold tokB at htk
      clear hgo hwa hC2 l2
      by_cases k1 : tok.f0 = 1
      · rw [if_pos k1] at htk
        have q1 : (tok.f0 == 1) = true := beq_iff_eq.mpr k1
        have SC' := fun (o : Obj) => SC o htk
        clear SC EC TC htk hbo hEo k1
        obtain ⟨e1, b1⟩ := r
        dsimp only at hnx
        by_cases he : e1 = 0
        · rw [if_pos he] at hnx
          have HN := Lib.hid hnx
          have qe : (e1 != 0) = false := by rw [bne_eq_false_iff_eq]; exact he
          have HE := Lib.hid he
          clear hnx he
          go_wp2_with (go_at_call 39; refine (SC' _).mono ?_; rintro e w5 ⟨rfl, h5, b5⟩)
          exact ⟨⟨i + 1, b1, by go_num, by omega, HN, Lib.hid (h5 HE.out), Lib.hid b5⟩, by simp [intOf]; omega⟩
        · rw [if_neg he] at hnx
          simp only [Prod.mk.injEq] at hnx
          obtain ⟨rfl, rfl, rfl⟩ := hnx
          have qe : (e1 != 0) = true := by rw [bne_iff_ne]; exact he
          clear he
          go_wp2_with (go_at_call 39; refine (SC' _).mono ?_; rintro e w5 ⟨rfl, h5, b5⟩)
          go_ret3
          exact ⟨none, 0, rfl, Nat.le_refl _, Kd.C_nil _ _, b5⟩
      · rw [if_neg k1] at htk
        have q1 : (tok.f0 == 1) = false := beq_eq_false_iff_ne.mpr k1
        by_cases k2 : tok.f0 = 2
        · rw [if_pos k2] at htk
          have q2 : (tok.f0 == 2) = true := beq_iff_eq.mpr k2
          have EC' := fun (o : Obj) => EC o htk
          clear SC EC TC htk hbo hEo k1 k2
          obtain ⟨e1, b1⟩ := r
          dsimp only at hnx
          by_cases he : e1 = 0
          · rw [if_pos he] at hnx
            have HN := Lib.hid hnx
            have qe : (e1 != 0) = false := by rw [bne_eq_false_iff_eq]; exact he
            have HE := Lib.hid he
            clear hnx he
            go_wp2_with (go_at_call 40; refine (EC' _).mono ?_; rintro e w5 ⟨rfl, h5, b5⟩)
            exact ⟨⟨i + 1, b1, by go_num, by omega, HN, Lib.hid (h5), Lib.hid b5⟩, by simp [intOf]; omega⟩
          · rw [if_neg he] at hnx
            simp only [Prod.mk.injEq] at hnx
            obtain ⟨rfl, rfl, rfl⟩ := hnx
            have qe : (e1 != 0) = true := by rw [bne_iff_ne]; exact he
            clear he
            go_wp2_with (go_at_call 40; refine (EC' _).mono ?_; rintro e w5 ⟨rfl, h5, b5⟩)
            go_ret3
            exact ⟨none, 0, rfl, Nat.le_refl _, Kd.C_nil _ _, b5⟩
        · rw [if_neg k2] at htk
          have q2 : (tok.f0 == 2) = false := beq_eq_false_iff_ne.mpr k2
          by_cases k3 : tok.f0 = 3
          · rw [if_pos k3] at htk
            have q3 : (tok.f0 == 3) = true := beq_iff_eq.mpr k3
            have TC' := fun (o : Obj) => TC o htk
            clear SC EC TC htk hbo hEo k1 k2 k3
            obtain ⟨e1, b1⟩ := r
            dsimp only at hnx
            by_cases he : e1 = 0
            · rw [if_pos he] at hnx
              have HN := Lib.hid hnx
              have qe : (e1 != 0) = false := by rw [bne_eq_false_iff_eq]; exact he
              have HE := Lib.hid he
              clear hnx he
              go_wp2_with (go_at_call 41; refine (TC' _).mono ?_; rintro e w5 ⟨rfl, h5, b5⟩)
              exact ⟨⟨i + 1, b1, by go_num, by omega, HN, Lib.hid (h5 HE.out), Lib.hid b5⟩, by simp [intOf]; omega⟩
            · rw [if_neg he] at hnx
              simp only [Prod.mk.injEq] at hnx
              obtain ⟨rfl, rfl, rfl⟩ := hnx
              have qe : (e1 != 0) = true := by rw [bne_iff_ne]; exact he
              clear he
              go_wp2_with (go_at_call 41; refine (TC' _).mono ?_; rintro e w5 ⟨rfl, h5, b5⟩)
              go_ret3
              exact ⟨none, 0, rfl, Nat.le_refl _, Kd.C_nil _ _, b5⟩
          · rw [if_neg k3] at htk
            have q3 : (tok.f0 == 3) = false := beq_eq_false_iff_ne.mpr k3
            clear SC EC TC
            by_cases k5 : tok.f0 = 5 ∧ 0 < (i : Int)
            · rw [if_pos k5] at htk
              obtain rfl := Option.some.inj htk
              rw [if_neg (show ¬ ((51 : Int), b).1 = 0 from fun h => absurd (show (51 : Int) = 0 from h) (by decide))] at hnx
              simp only [Prod.mk.injEq] at hnx
              obtain ⟨rfl, rfl, rfl⟩ := hnx
              have q5 : (tok.f0 == 5) = true := beq_iff_eq.mpr k5.1
              have qi := k5.2
              clear htk k5 hEo
              go_wp2_with fail
              go_ret3
              exact ⟨none, 0, rfl, Nat.le_refl _, Kd.C_nil _ _, hbo _⟩
            · rw [if_neg k5] at htk
              obtain rfl := Option.some.inj htk
              rw [if_pos rfl] at hnx
              have HN := Lib.hid hnx
              have HBO := Lib.hid hbo
              have HEO := Lib.hid hEo
              clear htk hnx hbo hEo
              by_cases k6 : tok.f0 = 5
              · have q5 : (tok.f0 == 5) = true := beq_iff_eq.mpr k6
                have qi : ¬ 0 < (i : Int) := fun h => k5 ⟨k6, h⟩
                clear k5 k6 k3 k2 k1
                go_wp2_with fail
                exact ⟨⟨i + 1, b, by go_num, by omega, HN, Lib.hid (HEO.out _), Lib.hid (HBO.out _)⟩, by simp [intOf]; omega⟩
              · have q5 : (tok.f0 == 5) = false := beq_eq_false_iff_ne.mpr k6
                clear k5 k6 k3 k2 k1
                go_wp2_with fail
                exact ⟨⟨i + 1, b, by go_num, by omega, HN, Lib.hid (HEO.out _), Lib.hid (HBO.out _)⟩, by simp [intOf]; omega⟩
    · obtain rfl : i = l.length := by omega
      have hg := hgo.out
      rw [List.drop_length, buildGo] at hg
      simp only [Option.some.injEq, Prod.mk.injEq] at hg
      obtain ⟨rfl, rfl, rfl⟩ := hg
      obtain ⟨vt, vo, hA⟩ := hE.out
      obtain ⟨A', c', rfl, hc', hC'⟩ := Kd.S_reads hA.t
      have c0 := hA.cell0
      clear hA hlt hgo
      go_wp2_with fail
      go_ret3
      exact ⟨A', c', rfl, hc', hC', hBl.out⟩
end Go.Proofs.YtpfhgolamlnhiaaGreatDoor
