/- tree.builder.end: an end tag. -/
import Derived.Test.YtpfhgolamlnhiaaDoorTreeE
set_option linter.unusedVariables false
set_option linter.unusedSimpArgs false
namespace Go.Proofs.YtpfhgolamlnhiaaDoor
open Go.RowKit Go.Proofs.YtpfhgolamlnhiaaDoorW.PrintWords Go.Proofs.YtpfhgolamlnhiaaDoor.XT Go.Proofs.YtpfhgolamlnhiaaDoor.XA

theorem endPop_top {kd : Int} {f : Nat} {b b1 : Bs} (h : endPop kd f b = some b1) : ∃ nm, topName b = some nm := by
  cases f with
  | zero => simp [endPop] at h
  | succ f =>
    rw [endPop] at h
    obtain ⟨nm, hnm, _⟩ := Option.bind_eq_some_iff.1 h
    exact ⟨nm, hnm⟩
set_option maxHeartbeats 8000000 in
set_option maxRecDepth 100000 in
theorem end2_calls (B g k : Nat) (b : Bs) (name : ByteArray) (r : Int × Bs) (w0 w : World) (h : BdEx B g b w) (hb : Below B w0 w) (hB : B ≤ g) (hr : endB k b name = some r) :
    Calls Tryd.prog 54 #[.pointer (some ⟨g, 0, none⟩), .string name] w fun e w' => e = .returned (.int .i64 r.1) ∧ BdEx B g r.2 w' ∧ Below B w0 w' := by
  unfold endB at hr
  obtain ⟨kd, hkd, hr2⟩ := Option.bind_eq_some_iff.1 hr
  have H := Lib.hid h
  have HB := Lib.hid hb
  have KC := fun (w1 : World) => tree_Kind.calls k name kd w1 hkd
  clear h hb hr hkd
  by_cases h0 : kd = 0
  · rw [if_pos h0] at hr2
    obtain rfl := Option.some.inj hr2
    subst h0
    clear hr2
    go_enter Tryd.func54, Tryd.ntmps54
    go_wp2_with (go_at_call 16; refine (KC _).mono ?_; rintro e w1 ⟨rfl, ⟨nd, rfl⟩⟩)
    go_ret
    exact ⟨rfl, H.out.below (pw_below_drewN (Below.refl _ _) _), pw_below_drewN HB.out _⟩
  · rw [if_neg h0] at hr2
    have q0 : (kd == 0) = false := beq_eq_false_iff_ne.mpr h0
    by_cases h7 : 7 ≤ kd
    · rw [if_pos h7] at hr2
      obtain rfl := Option.some.inj hr2
      clear hr2 h0
      go_enter Tryd.func54, Tryd.ntmps54
      go_wp2_with (go_at_call 16; refine (KC _).mono ?_; rintro e w1 ⟨rfl, ⟨nd, rfl⟩⟩)
      go_ret
      exact ⟨rfl, H.out.below (pw_below_drewN (Below.refl _ _) _), pw_below_drewN HB.out _⟩
    · rw [if_neg h7] at hr2
      obtain ⟨b1, hb1, hr3⟩ := Option.bind_eq_some_iff.1 hr2
      obtain ⟨nm1, hn1, hr4⟩ := Option.bind_eq_some_iff.1 hr3
      obtain ⟨nm0, hn0⟩ := endPop_top hb1
      obtain ⟨gt, qt, vo2, hA, hok, kn⟩ := H.out.top hn0
      have TC0 := fun (w' : World) (hb' : Below w.heap.size w w') => top_calls B g gt qt b vo2 w' (hA.below hb') hok
      have HP := Lib.hid hb1
      have HN0 := Lib.hid hn0
      clear hr2 hr3 hb1 h0 hA hok hn0
      go_enter Tryd.func54, Tryd.ntmps54
      go_upto_block 1 with (first | (go_at_call 16; refine (KC _).mono ?_; rintro e w1 ⟨rfl, ⟨nd, rfl⟩⟩) | (go_at_call 77; refine (TC0 _ (pw_below_drewN (Below.refl _ _) _)).mono ?_; rintro e w3 ⟨rfl, ⟨nd3, rfl⟩⟩))
      go_cut [6] from 20 to 44 (fun v6 wd => Hid (BdEx B g b1 wd) ∧ Hid (Below B w0 wd))
      case first =>
        go_wp2_with fail
        go_loopg [6] k (fun kq v6 wr => ∃ (b2 : Bs) (nm : ByteArray), v6 = .string nm ∧ Hid (topName b2 = some nm) ∧ Hid (endPop kd kq b2 = some b1) ∧ Hid (BdEx B g b2 wr) ∧ Hid (Below B w0 wr))
        case atStart => exact ⟨b, nm0, rfl, HN0, HP, Lib.hid (H.out.below (pw_below_drewN (Below.refl _ _) _)), Lib.hid (pw_below_drewN HB.out _)⟩
        case round =>
          obtain ⟨b2, nm, rfl, hnm, hp2, hE, hBl⟩ := hrel
          have hg := hp2.out
          cases gk with
          | zero => simp [endPop] at hg
          | succ k3 =>
            rw [endPop, hnm.out, Option.bind_some] at hg
            clear hp2
            obtain ⟨gt3, qt3, vo3, hA3, hok3, kn3⟩ := hE.out.top hnm.out
            have hop3 := hok3.1
            clear hA3 hok3 kn3
            have PC := fun (w' : World) (hb2 : Below B w0 w') (he : BdEx B g b2 w') => pop_calls B g b2 w0 w' he hop3 hb2 hB
            by_cases e1 : kd = 1
            · have q1 : (kd == 1) = true := beq_iff_eq.mpr e1
              by_cases eP : nm.toList = wP
              · have qP : (nm.toList == ([112] : List UInt8)) = true := beq_iff_eq.mpr eP
                rw [if_pos (.inl ⟨e1, .inl eP⟩)] at hg
                obtain ⟨nm2, hnm2⟩ := endPop_top hg
                have HM := Lib.hid hg
                have HN2 := Lib.hid hnm2
                clear hg hnm2 e1 eP
                go_wp2_with (first | (go_at_call 78; refine (PC _ hBl.out hE.out).mono ?_; rintro e w4 ⟨rfl, h4, b4, kp4⟩; obtain ⟨gt4, qt4, vo4, hA4, hok4, kn4⟩ := h4.top HN2.out; have TC4 := top_calls B g gt4 qt4 _ vo4 _ hA4 hok4; have H4 := Lib.hid h4; clear hA4 hok4 h4) | (go_at_call 77; refine TC4.mono ?_; rintro e w5 ⟨rfl, ⟨nd5, rfl⟩⟩))
                go_roundg k3
                case measure => omega
                case rel => exact ⟨_, nm2, rfl, HN2, HM, Lib.hid (H4.out.below (pw_below_drewN (Below.refl _ _) _)), Lib.hid (pw_below_drewN b4 _)⟩
              · have qP : (nm.toList == ([112] : List UInt8)) = false := beq_eq_false_iff_ne.mpr eP
                by_cases eL : nm.toList = wLi
                · have qL : (nm.toList == ([108, 105] : List UInt8)) = true := beq_iff_eq.mpr eL
                  rw [if_pos (.inl ⟨e1, .inr eL⟩)] at hg
                  obtain ⟨nm2, hnm2⟩ := endPop_top hg
                  have HM := Lib.hid hg
                  have HN2 := Lib.hid hnm2
                  clear hg hnm2 e1 eP eL
                  go_wp2_with (first | (go_at_call 78; refine (PC _ hBl.out hE.out).mono ?_; rintro e w4 ⟨rfl, h4, b4, kp4⟩; obtain ⟨gt4, qt4, vo4, hA4, hok4, kn4⟩ := h4.top HN2.out; have TC4 := top_calls B g gt4 qt4 _ vo4 _ hA4 hok4; have H4 := Lib.hid h4; clear hA4 hok4 h4) | (go_at_call 77; refine TC4.mono ?_; rintro e w5 ⟨rfl, ⟨nd5, rfl⟩⟩))
                  go_roundg k3
                  case measure => omega
                  case rel => exact ⟨_, nm2, rfl, HN2, HM, Lib.hid (H4.out.below (pw_below_drewN (Below.refl _ _) _)), Lib.hid (pw_below_drewN b4 _)⟩
                · have qL : (nm.toList == ([108, 105] : List UInt8)) = false := beq_eq_false_iff_ne.mpr eL
                  have q3 : (kd == 3) = false := beq_eq_false_iff_ne.mpr (by omega)
                  rw [if_neg (by rintro (⟨_, h | h⟩ | ⟨h, _⟩); exact eP h; exact eL h; omega)] at hg
                  obtain rfl := Option.some.inj hg
                  clear hg e1 eP eL
                  go_wp2_with fail
                  go_meet
                  case rel => exact ⟨hE, hBl⟩
            · have q1 : (kd == 1) = false := beq_eq_false_iff_ne.mpr e1
              by_cases e3 : kd = 3
              · have q3 : (kd == 3) = true := beq_iff_eq.mpr e3
                by_cases eP : nm.toList = wP
                · have qP : (nm.toList == ([112] : List UInt8)) = true := beq_iff_eq.mpr eP
                  rw [if_pos (.inr ⟨e3, eP⟩)] at hg
                  obtain ⟨nm2, hnm2⟩ := endPop_top hg
                  have HM := Lib.hid hg
                  have HN2 := Lib.hid hnm2
                  clear hg hnm2 e1 e3 eP
                  go_wp2_with (first | (go_at_call 78; refine (PC _ hBl.out hE.out).mono ?_; rintro e w4 ⟨rfl, h4, b4, kp4⟩; obtain ⟨gt4, qt4, vo4, hA4, hok4, kn4⟩ := h4.top HN2.out; have TC4 := top_calls B g gt4 qt4 _ vo4 _ hA4 hok4; have H4 := Lib.hid h4; clear hA4 hok4 h4) | (go_at_call 77; refine TC4.mono ?_; rintro e w5 ⟨rfl, ⟨nd5, rfl⟩⟩))
                  go_roundg k3
                  case measure => omega
                  case rel => exact ⟨_, nm2, rfl, HN2, HM, Lib.hid (H4.out.below (pw_below_drewN (Below.refl _ _) _)), Lib.hid (pw_below_drewN b4 _)⟩
                · have qP : (nm.toList == ([112] : List UInt8)) = false := beq_eq_false_iff_ne.mpr eP
                  rw [if_neg (by rintro (⟨h, _⟩ | ⟨_, h⟩); exact e1 h; exact eP h)] at hg
                  obtain rfl := Option.some.inj hg
                  clear hg e1 e3 eP
                  go_wp2_with fail
                  go_meet
                  case rel => exact ⟨hE, hBl⟩
              · have q3 : (kd == 3) = false := beq_eq_false_iff_ne.mpr e3
                rw [if_neg (by rintro (⟨h, _⟩ | ⟨h, _⟩); exact e1 h; exact e3 h)] at hg
                obtain rfl := Option.some.inj hg
                clear hg e1 e3
                go_wp2_with fail
                go_meet
                case rel => exact ⟨hE, hBl⟩
      case rest =>
        obtain ⟨hE, hBl⟩ := hcut
        obtain ⟨gt5, qt5, vo5, hA, hok, kn5⟩ := hE.out.top hn1
        have TC := fun (w' : World) (hb' : Below wc.heap.size wc w') => top_calls B g gt5 qt5 b1 vo5 w' (hA.below hb') hok
        have PC := fun (w' : World) (hb' : Below wc.heap.size wc w') (hb2 : Below B w0 w') => pop_calls B g b1 w0 w' (hE.out.below hb') hok.1 hb2 hB
        clear hA hok hn1
        by_cases hli : nm1.toList = name.toList
        · rw [if_pos hli] at hr4
          obtain rfl := Option.some.inj hr4
          have hq2 : (nm1.toList != name.toList) = false := bne_eq_false_iff_eq.mpr hli
          have hq3 : (nm1.toList == name.toList) = true := beq_iff_eq.mpr hli
          clear hr4 hli
          go_wp2_with (first | (go_at_call 77; refine (TC _ (Below.refl _ _)).mono ?_; rintro e w3 ⟨rfl, ⟨nd3, rfl⟩⟩) | (go_at_call 78; refine (PC _ (pw_below_drewN (Below.refl _ _) _) (pw_below_drewN hBl.out _)).mono ?_; rintro e w4 ⟨rfl, h4, b4, kp4⟩))
          go_ret
          exact ⟨rfl, h4, b4⟩
        · rw [if_neg hli] at hr4
          obtain rfl := Option.some.inj hr4
          have hq2 : (nm1.toList != name.toList) = true := bne_iff_ne.mpr hli
          have hq3 : (nm1.toList == name.toList) = false := beq_eq_false_iff_ne.mpr hli
          clear hr4 hli
          go_wp2_with (first | (go_at_call 77; refine (TC _ (Below.refl _ _)).mono ?_; rintro e w3 ⟨rfl, ⟨nd3, rfl⟩⟩))
          go_ret
          exact ⟨rfl, hE.out.below (pw_below_drewN (Below.refl _ _) _), pw_below_drewN hBl.out _⟩
end Go.Proofs.YtpfhgolamlnhiaaDoor
