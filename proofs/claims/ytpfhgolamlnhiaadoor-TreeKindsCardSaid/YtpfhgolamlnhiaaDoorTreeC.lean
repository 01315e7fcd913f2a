/- tree.builder.text: a text. -/
import Derived.Test.YtpfhgolamlnhiaaDoorTreeB
set_option linter.unusedVariables false
set_option linter.unusedSimpArgs false
namespace Go.Proofs.YtpfhgolamlnhiaaDoor
open Go.RowKit Go.Proofs.YtpfhgolamlnhiaaDoorW.PrintWords Go.Proofs.YtpfhgolamlnhiaaDoorW.PrintLast Go.Proofs.YtpfhgolamlnhiaaDoor.XT Go.Proofs.YtpfhgolamlnhiaaDoor.XA

set_option maxHeartbeats 4000000 in
set_option maxRecDepth 100000 in
theorem text2_calls (B g : Nat) (b : Bs) (data : ByteArray) (r : Int × Bs) (w0 w : World) (h : BdEx B g b w) (hb : Below B w0 w) (hB : B ≤ g) (hBw : B ≤ w.heap.size) (hr : textB b data = some r) :
    Calls Tryd.prog 55 #[.pointer (some ⟨g, 0, none⟩), .string data] w fun e w' => e = .returned (.int .i64 r.1) ∧ (r.1 = 0 → BdEx B g r.2 w') ∧ Below B w0 w' := by
  obtain ⟨vt, vo, h⟩ := h
  unfold textB at hr
  by_cases hd : data.toList.isEmpty = true
  · rw [if_pos hd] at hr
    obtain rfl := Option.some.inj hr
    have H := Lib.hid h
    clear h hr
    go_enter Tryd.func55, Tryd.ntmps55
    go_wp2_with fail
    go_ret
    exact ⟨rfl, fun _ => ⟨vt, vo, H.out⟩, hb⟩
  · rw [if_neg hd] at hr
    have hd' : data.toList.isEmpty = false := by simpa using hd
    split at hr
    case isFalse => cases hr
    rename_i hok
    have HOK := Lib.hid hok
    obtain ⟨k1, k2, k3⟩ := hok
    obtain ⟨gt, qt, rfl⟩ := h.tform (by omega)
    have TC := fun (w' : World) (hb' : Below w.heap.size w w') => top_calls B g gt qt b vo w' (h.below hb') HOK.out
    have AC : ∀ w', Below w.heap.size w w' → ∀ r, addB b ⟨2, ⟨#[]⟩, [], data, 0, []⟩ = some r → _ := fun w' hb' r hr => add_calls B g b ⟨2, ⟨#[]⟩, [], data, 0, []⟩ 0 (.slice none 0 0) (fun _ => False) r _ vo w0 w' (h.below hb') (below_then hb hBw hb') hB rfl (Kd.R_nil _ _ _ _ _) (fun _ hk => hk.elim) (Kd.S_mono (h.below hb').t (fun k hk => ⟨hk, id⟩)) (fun _ hk => hk.elim) (Nat.le_trans hBw hb'.size) hr
    dsimp only at AC
    obtain ⟨oki, v2, v5, hR2, hR5, hoki, hcc, hfr, hH⟩ := node_lend h.t (topI b) k2 k3
    obtain ⟨A5, q5, rfl⟩ := Kd.R_slice hR5
    have c5 := hcc 5 _ rfl
    change w.cell? ⟨gt, (topI b).toNat * 6 + 5, none⟩ = some (.slice A5 (topN b).f5.length q5) at c5
    have hR5' : Kd.R (Kd.int .i64) 3 w B oki (.slice A5 (topN b).f5.length q5) (topN b).f5 := hR5
    have H := Lib.hid h
    have hE : rd_T37 b.t (topI b) = topN b := rfl
    clear hcc hfr hH hR2 hR5 h hE
    by_cases h5 : 0 < (topN b).f5.length
    · rw [if_pos h5] at hr
      dsimp only at hr
      obtain ⟨g5, q5', e5, -⟩ := Kd.R_form hR5' h5
      injection e5 with e5 _ e6
      subst e5
      obtain ⟨ad, ea, ck⟩ := Kd.at_int (Kd.R_reads' hR5').2.2 (((topN b).f5.length : Int) - 1) (by omega) (by omega)
      injection ea with ea
      subst ea
      rw [add_at, Nat.zero_add, show (((topN b).f5.length : Int) - 1).toNat = (topN b).f5.length - 1 by omega] at ck
      have hl5 : (topN b).f5.length ≤ 9223372036854775807 := (Kd.R_reads' hR5').2.2.2.1
      have b0 : (1 : Int) ≤ ((topN b).f5.length : Int) := by omega
      have b1 : (0 : Int) < ((topN b).f5.length : Int) := by omega
      have e2 : (((topN b).f5.length : Int) - 1).toNat = (topN b).f5.length - 1 := by omega
      have hw : IntKind.i64.wrap (((topN b).f5.length : Int) - 1) = ((topN b).f5.length : Int) - 1 := IntWalk.i64_in _ (by omega)
      generalize rd (topN b).f5 (((topN b).f5.length : Int) - 1) = j at *
      generalize (topN b).f5.length = L5 at *
      split at hr
      case isFalse => cases hr
      rename_i hj
      obtain ⟨j0, j1⟩ := hj
      obtain ⟨okj, u2, u5, hJ2, hJ5, hokj, hjc, hjf, hHj⟩ := node_lend H.out.t j j0 j1
      have kk0 : w.cell? ⟨gt, j.toNat * 6, none⟩ = some (.int .u8 (rd_T37 b.t j).f0) := hjc 0 _ rfl
      have kk3 : w.cell? ⟨gt, j.toNat * 6 + 3, none⟩ = some (.string (rd_T37 b.t j).f3) := hjc 3 _ rfl
      have kf3 := hjf 3
      have c0 := H.out.cell0
      have hM3 : ∀ x : ByteArray, (k37).M w B okj { rd_T37 b.t j with f3 := x } [.int .u8 (rd_T37 b.t j).f0, .string (rd_T37 b.t j).f1, u2, .string x, .int .i64 (rd_T37 b.t j).f4, u5] := fun x => k37_mkM w B okj { rd_T37 b.t j with f3 := x } hJ2 hJ5
      have SG := fun x : ByteArray => Lib.hid (Kd.S_seg (okg := fun _ => False) (Kd.H_mono hHj (fun k hk => ⟨hk, id⟩)) j0 j1 (seg := [Value.string x]) (j := 3) (by show 3 + 1 ≤ 6; omega) (hM3 x) (fun k hk => Or.inl hk) (fun k hk => hk.elim))
      clear hjc hjf hHj hJ2 hJ5 hM3 hR5'
      by_cases h2 : (rd_T37 b.t j).f0 = 2
      · rw [if_pos h2] at hr
        split at hr
        case isFalse => cases hr
        rename_i hsz
        obtain rfl := Option.some.inj hr
        have hq : ((rd_T37 b.t j).f0 == 2) = true := by rw [beq_iff_eq]; exact h2
        clear hr
        go_enter Tryd.func55, Tryd.ntmps55
        go_wp2_with (go_at_call 77; refine (TC _ (Below.refl _ _)).mono ?_; rintro e w1 ⟨rfl, ⟨nd1, rfl⟩⟩)
        go_quiet (fail)
        go_wp2_with fail
        have hS := (SG ((rd_T37 b.t j).f3 ++ data)).out
        obtain ⟨tcs, htc⟩ := Kd.S_typed H.out.t gt (by simp [Value.ownBlock])
        have hggt : some g ≠ some gt := Kd.S_ne H.out.t H.out.box (by decide)
        have hop := Kd.Q_grown1 H.out.op rfl hS.2 (Kd.Q_ne H.out.op htc (by decide))
        have hgt := Kd.S_base H.out.t gt (by simp [Value.ownBlock])
        go_ret
        exact ⟨rfl, fun _ => ⟨_, _, (blk_grown H.out.box hS.2 hggt : _), Kd.S_drewN hS.1 _, Kd.Q_drewN hop _⟩, (pw_below_drewN hb _).setCell hgt _⟩
      · rw [if_neg h2] at hr
        have hq : ((rd_T37 b.t j).f0 == 2) = false := by rw [beq_eq_false_iff_ne]; exact h2
        clear SG
        go_enter Tryd.func55, Tryd.ntmps55
        go_wp2_with (go_at_call 77; refine (TC _ (Below.refl _ _)).mono ?_; rintro e w1 ⟨rfl, ⟨nd1, rfl⟩⟩)
        go_quiet (fail)
        go_wp2_with (go_at_call 79; refine (AC _ (pw_below_drewN (Below.refl _ _) _) r hr).mono ?_; rintro e w3 ⟨rfl, h3, b3⟩)
        go_ret
        exact ⟨rfl, h3, b3⟩
    · rw [if_neg h5] at hr
      have hL : (topN b).f5.length = 0 := by omega
      rw [hL] at c5
      clear hL h5 hR5'
      go_enter Tryd.func55, Tryd.ntmps55
      go_wp2_with (first | (go_at_call 77; refine (TC _ (Below.refl _ _)).mono ?_; rintro e w1 ⟨rfl, ⟨nd1, rfl⟩⟩) | (go_at_call 79; refine (AC _ (pw_below_drewN (Below.refl _ _) _) r hr).mono ?_; rintro e w3 ⟨rfl, h3, b3⟩))
      go_ret
      exact ⟨rfl, h3, b3⟩
end Go.Proofs.YtpfhgolamlnhiaaDoor
