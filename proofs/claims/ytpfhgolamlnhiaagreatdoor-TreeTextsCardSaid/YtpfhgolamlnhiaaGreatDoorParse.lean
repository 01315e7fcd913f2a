/- tree.Parse. -/
import Derived.Test.YtpfhgolamlnhiaaGreatDoorTreeI
import Derived.Test.YtpfhgolamlnhiaaGreatDoorTokS
import Derived.Test.YtpfhgolamlnhiaaGreatDoorUtf4
set_option linter.unusedVariables false
set_option linter.unusedSimpArgs false
namespace Go.Proofs.YtpfhgolamlnhiaaGreatDoor
open Go.RowKit Go.Proofs.YtpfhgolamlnhiaaGreatDoorW.PrintWords Go.Proofs.YtpfhgolamlnhiaaGreatDoor.XT Go.Proofs.YtpfhgolamlnhiaaGreatDoor.XA

def parseK (k : Nat) (l : List Int) : Option (List NodeD × Int × Int) :=
  (x_utfDecode.f k l).bind fun r => if r.2 ≠ 0 then some ([], r.2, 0) else if 4611686018427387904 < r.1.size then none else
    (tokensK k r.1).bind fun q => if q.2.1 ≠ 0 then some ([], q.2.1, q.2.2) else buildK k q.1
set_option maxHeartbeats 4000000 in
set_option maxRecDepth 100000 in
theorem parse_calls (k : Nat) (A0 : Option Addr) (c0 : Nat) (l0 : List Int) (t : List NodeD) (er pl : Int) (w : World) (hr0 : Kd.C (Kd.int .u8) w A0 l0.length l0) (hc0 : l0.length ≤ c0) (hG : G2 w) (h : parseK k l0 = some (t, er, pl)) :
    Calls Tryz.prog 19 #[.slice A0 l0.length c0] w fun e w' => ∃ A' c', e = .returned (.tuple #[.slice A' t.length c', .int .i64 er, .int .i64 pl]) ∧ t.length ≤ c' ∧ Kd.C k38 w' A' t.length t ∧ Below w.heap.size w w' := by
  obtain ⟨⟨s1, e1⟩, hu, h2⟩ := Option.bind_eq_some_iff.1 h
  have UC := x_utfDecode.calls k A0 c0 l0 s1 e1 w hr0 hc0 hu
  dsimp only at h2
  have HG := Lib.hid hG
  clear hr0 hc0 hu h hG
  by_cases he : e1 = 0
  · rw [if_neg (fun hh => hh he)] at h2
    split at h2
    case isTrue => cases h2
    rename_i hsz
    obtain ⟨⟨tl, e2, p2⟩, htk, h3⟩ := Option.bind_eq_some_iff.1 h2
    dsimp only at h3
    have TC := fun (w' : World) (hg : G2 w') => tokens_calls k s1 tl e2 p2 w' hg (by omega) htk
    have q1 : (e1 != 0) = false := by rw [bne_eq_false_iff_eq]; exact he
    clear h2 htk hsz he
    by_cases he2 : e2 = 0
    · rw [if_neg (fun hh => hh he2)] at h3
      have BC := fun (A : Option Addr) (c : Nat) (w' : World) (hC : Kd.C k25 w' A tl.length tl) (hc : tl.length ≤ c) => build_calls k A c tl t er pl w' hC hc h3
      have q2 : (e2 != 0) = false := by rw [bne_eq_false_iff_eq]; exact he2
      clear h3 he2
      go_enter Tryz.func19, Tryz.ntmps19
      go_wp2_with (first | (go_at_call 48; refine UC.mono ?_; rintro e w1 ⟨rfl, hb1⟩) | (go_at_call 49; refine (TC _ (HG.out.below hb1)).mono ?_; rintro e w2 ⟨A2, c2, rfl, hc2, hC2, hb2⟩) | (go_at_call 14; refine (BC _ _ _ hC2 hc2).mono ?_; rintro e w3 ⟨A3, c3, rfl, hc3, hC3, hb3⟩))
      go_ret3
      exact ⟨A3, c3, rfl, hc3, hC3, below_then (below_then hb1 hb1.size hb2) (Nat.le_trans hb1.size hb2.size) hb3⟩
    · rw [if_pos he2] at h3
      simp only [Option.some.injEq, Prod.mk.injEq] at h3
      obtain ⟨rfl, rfl, rfl⟩ := h3
      have q2 : (e2 != 0) = true := by rw [bne_iff_ne]; exact he2
      clear he2
      go_enter Tryz.func19, Tryz.ntmps19
      go_wp2_with (first | (go_at_call 48; refine UC.mono ?_; rintro e w1 ⟨rfl, hb1⟩) | (go_at_call 49; refine (TC _ (HG.out.below hb1)).mono ?_; rintro e w2 ⟨A2, c2, rfl, hc2, hC2, hb2⟩))
      go_ret3
      exact ⟨none, 0, rfl, Nat.le_refl _, Kd.C_nil _ _, below_then hb1 hb1.size hb2⟩
  · rw [if_pos he] at h2
    simp only [Option.some.injEq, Prod.mk.injEq] at h2
    obtain ⟨rfl, rfl, rfl⟩ := h2
    have q1 : (e1 != 0) = true := by rw [bne_iff_ne]; exact he
    clear he
    go_enter Tryz.func19, Tryz.ntmps19
    go_wp2_with (go_at_call 48; refine UC.mono ?_; rintro e w1 ⟨rfl, hb1⟩)
    go_ret3
    exact ⟨none, 0, rfl, Nat.le_refl _, Kd.C_nil _ _, hb1⟩
end Go.Proofs.YtpfhgolamlnhiaaGreatDoor
