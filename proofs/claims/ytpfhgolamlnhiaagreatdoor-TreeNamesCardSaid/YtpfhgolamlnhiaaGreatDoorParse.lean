/- tree.Parse. -/
import Derived.Test.YtpfhgolamlnhiaaGreatDoorTreeI
import Derived.Test.YtpfhgolamlnhiaaGreatDoorTokS
import Derived.Test.YtpfhgolamlnhiaaGreatDoorUtf4
import Derived.Lib.SlBytesConst
set_option linter.unusedVariables false
set_option linter.unusedSimpArgs false
namespace Go.Proofs.YtpfhgolamlnhiaaGreatDoor
open Go.RowKit Go.Proofs.YtpfhgolamlnhiaaGreatDoorW.PrintWords Go.Proofs.YtpfhgolamlnhiaaGreatDoor.XT Go.Proofs.YtpfhgolamlnhiaaGreatDoor.XA

def parseK (k : Nat) (l : List Int) : Option (List NodeD × Int × Int) :=
  (x_utfDecode.f k l).bind fun r => if r.2 ≠ 0 then some ([], r.2, 0) else if 4611686018427387904 < r.1.size then none else
    (tokensK k r.1).bind fun q => if q.2.1 ≠ 0 then some ([], q.2.1, q.2.2) else buildK k q.1
set_option maxHeartbeats 4000000 in
set_option maxRecDepth 100000 in
theorem parse_calls (k : Nat) (A0 : Option Addr) (c0 : Nat) (l0 : List Int) (t : List NodeD) (er pl : Int) (w : World) (hr0 : Kd.C (Kd.int .u8) w A0 l0.length l0) (hc0 : l0.length ≤ c0) (hG : G2 w) (h : parseK k l0 = some (t, er, pl)) :
    Calls Tryz.prog 19 #[.slice A0 l0.length c0] w fun e w' => ∃ A' c', e = .returned (.tuple #[.slice A' t.length c', .int .i64 er, .int .i64 pl]) ∧ t.length ≤ c' ∧ Kd.C k38 w' A' t.length t ∧ Below w.heap.size w w' := by
  obtain ⟨⟨s1, e1⟩, hu, h2⟩ := Option.bind_eq_some_iff.1 h
  have UC := x_utfDecode.calls k A0 c0 l0 s1 e1 w hr0 hc0 hu
  dsimp only at h2
  have HG := Lib.hid hG
  clear hr0 hc0 hu h hG
  by_cases he : e1 = 0
  · rw [if_neg (fun hh => hh he)] at h2
    split at h2
    case isTrue => cases h2
    rename_i hsz
    obtain ⟨⟨tl, e2, p2⟩, htk, h3⟩ := Option.bind_eq_some_iff.1 h2
    dsimp only at h3
    have TC := fun (w' : World) (hg : G2 w') => tokens_calls k s1 tl e2 p2 w' hg (by omega) htk
    have q1 : (e1 != 0) = false := by rw [bne_eq_false_iff_eq]; exact he
    clear h2 htk hsz he
    by_cases he2 : e2 = 0
    · rw [if_neg (fun hh => hh he2)] at h3
      have BC := fun (A : Option Addr) (c : Nat) (w' : World) (hC : Kd.C k25 w' A tl.length tl) (hc : tl.length ≤ c) => build_calls k A c tl t er pl w' hC hc h3
      have q2 : (e2 != 0) = false := by rw [bne_eq_false_iff_eq]; exact he2
      clear h3 he2
      go_enter Tryz.func19, Tryz.ntmps19
      go_wp2_with (first | (go_at_call 48; refine UC.mono ?_; rintro e w1 ⟨rfl, hb1⟩) | (go_at_call 49; refine (TC _ (HG.out.below hb1)).mono ?_; rintro e w2 ⟨A2, c2, rfl, hc2, hC2, hb2⟩) | (go_at_call 14; refine (BC _ _ _ hC2 hc2).mono ?_; rintro e w3 ⟨A3, c3, rfl, hc3, hC3, hb3⟩))
      go_ret3
      exact ⟨A3, c3, rfl, hc3, hC3, below_then (below_then hb1 hb1.size hb2) (Nat.le_trans hb1.size hb2.size) hb3⟩
    · rw [if_pos he2] at h3
      simp only [Option.some.injEq, Prod.mk.injEq] at h3
      obtain ⟨rfl, rfl, rfl⟩ := h3
      have q2 : (e2 != 0) = true := by rw [bne_iff_ne]; exact he2
      clear he2
      go_enter Tryz.func19, Tryz.ntmps19
      go_wp2_with (first | (go_at_call 48; refine UC.mono ?_; rintro e w1 ⟨rfl, hb1⟩) | (go_at_call 49; refine (TC _ (HG.out.below hb1)).mono ?_; rintro e w2 ⟨A2, c2, rfl, hc2, hC2, hb2⟩))
      go_ret3
      exact ⟨none, 0, rfl, Nat.le_refl _, Kd.C_nil _ _, below_then hb1 hb1.size hb2⟩
  · rw [if_pos he] at h2
    simp only [Option.some.injEq, Prod.mk.injEq] at h2
    obtain ⟨rfl, rfl, rfl⟩ := h2
    have q1 : (e1 != 0) = true := by rw [bne_iff_ne]; exact he
    clear he
    go_enter Tryz.func19, Tryz.ntmps19
    go_wp2_with (go_at_call 48; refine UC.mono ?_; rintro e w1 ⟨rfl, hb1⟩)
    go_ret3
    exact ⟨none, 0, rfl, Nat.le_refl _, Kd.C_nil _ _, hb1⟩
end Go.Proofs.YtpfhgolamlnhiaaGreatDoor

set_option linter.unusedVariables false
namespace Go.Proofs.YtpfhgolamlnhiaaGreatDoor
open Go.RowKit Go.Proofs.YtpfhgolamlnhiaaGreatDoorW.PrintWords Go.Proofs.YtpfhgolamlnhiaaGreatDoor.XT Go.Proofs.YtpfhgolamlnhiaaGreatDoor.XA

def ex1 : List Int := [60, 117, 108, 62, 60, 108, 105, 62, 97, 60, 108, 105, 62, 98, 60, 47, 117, 108, 62]
def ex2 : List Int := [60, 98, 62, 60, 112, 62, 120, 60, 47, 98, 62]
/-- What works asks, of the two answers. -/
def asks05 (a b : Option (List NodeD × Int × Int)) : Bool :=
  match a, b with
  | some (t, e, _), some (_, f, p) => decide (e = 0) && (decide (t.length = 6) && (decide ((rd_T38 t 1).f5.length = 2) && (decide (rd (rd_T38 t 1).f5 1 = 4) && (decide ((rd_T38 t 5).f3.toList = [98]) && (decide (f = 51) && decide (p = 3))))))
  | _, _ => false
set_option maxRecDepth 100000 in
theorem works05 : asks05 (parseK 60 ex1) (parseK 60 ex2) = true := by decide +kernel
theorem lit_reads (w : World) (e : TypeId) (fr : Nat × Nat) (xs : List Int) (n : Nat) (hn : xs.length = n) (hm : n ≤ maxLen) : Kd.C (Kd.int .u8) (w.alloc (.cells (nums .u8 xs).toArray e fr)) (some ⟨w.heap.size, 0, none⟩) n xs := by
  refine Kd.C_of_reads (enc := Value.int .u8) (d := (0 : Int)) (h1 := fun _ => rfl) ⟨hn, by simpa [maxLen] using hm, fun _ => ⟨_, rfl, fun j hj => ?_⟩⟩
  have hh : (w.alloc (.cells (nums .u8 xs).toArray e fr)).heap[w.heap.size]? = some (.cells (nums .u8 xs).toArray e fr) := heap_alloc_new w _
  rw [add_plain, cell_of_row _ _ j _ e fr hh]
  have hj2 : j < xs.length := by omega
  simp [nums, List.getD_eq_getElem?_getD, hj2]
set_option maxHeartbeats 4000000 in
set_option maxRecDepth 100000 in
theorem works05_calls (w : World) (hG : G2 w) :
    Calls Tryz.prog 13 #[] w fun e w' => e = .returned (.bool true) ∧ Below w.heap.size w w' := by
  have hw := works05
  unfold asks05 at hw
  cases h1 : parseK 60 ex1 with
  | none => rw [h1] at hw; cases hw
  | some r1 =>
    cases h2 : parseK 60 ex2 with
    | none => rw [h1, h2] at hw; cases hw
    | some r2 =>
      rw [h1, h2] at hw
      obtain ⟨t, e1, p1⟩ := r1
      obtain ⟨t2, e2, p2⟩ := r2
      simp only [Bool.and_eq_true, decide_eq_true_eq] at hw
      obtain ⟨rfl, hl, hk, hk1, hd, rfl, rfl⟩ := hw
      have HG := Lib.hid hG
      have hlen1 : ex1.length = 19 := rfl
      have hlen2 : ex2.length = 11 := rfl
      have PC1 := parse_calls 60 (some ⟨w.heap.size, 0, none⟩) 19 ex1 t 0 p1 (w.alloc (.cells (nums .u8 ex1).toArray 5 (19, 20))) (lit_reads w 5 (19, 20) ex1 19 rfl (by decide)) (by decide) (HG.out.below (below_alloc (Below.refl _ _) _)) h1
      have PC2 := fun (w2 : World) (hg : G2 w2) => parse_calls 60 (some ⟨w2.heap.size, 0, none⟩) 11 ex2 t2 51 3 (w2.alloc (.cells (nums .u8 ex2).toArray 5 (11, 12))) (lit_reads w2 5 (11, 12) ex2 11 rfl (by decide)) (by decide) (hg.below (below_alloc (Below.refl _ _) _)) h2
      rw [hlen1] at PC1
      rw [hlen2] at PC2
      clear hlen1 hlen2
      clear h1 h2 hG
      go_enter Tryz.func13, Tryz.ntmps13
      go_wp2_with fail
      rw [Lib.run_convert_bytes_const (ht := Tryz.underlying44) (he := Tryz.underlying5)]
      simp only [Result.andThen]
      rw [Oper.upon_value]
      go_wp2_with (go_at_call 19; refine PC1.mono ?_; rintro e w1 ⟨A1, c1, rfl, hc1, hC1, hb1⟩)
      have hb1' : Below w.heap.size w w1 := below_then (below_alloc (Below.refl _ _) _) (below_alloc (Below.refl w.heap.size w) _).size hb1
      clear hb1 PC1
      rw [Lib.run_convert_bytes_const (ht := Tryz.underlying44) (he := Tryz.underlying5)]
      simp only [Result.andThen]
      rw [Oper.upon_value]
      obtain ⟨ad, B2, b2, B5, b5, rfl, y0, y1, y2, y3, y4, y5, l2, g2, l5, g5⟩ := at_T38 hC1 1 (by decide) (by rw [hl]; decide)
      obtain ⟨ad', D2, d2, D5, d5, ea, z0, z1, z2, z3, z4, z5, m2, n2, m5, n5⟩ := at_T38 hC1 5 (by decide) (by rw [hl]; decide)
      injection ea with ea
      subst ea
      rw [show (1 : Int).toNat * 6 = 6 from rfl] at y5
      rw [show (5 : Int).toNat * 6 = 30 from rfl] at z3
      rw [hk] at y5 g5
      rw [show (ad.add 6).block = ad.block from rfl, show (ad.add 6).off = ad.off + 6 from rfl] at y5
      rw [show (ad.add 30).block = ad.block from rfl, show (ad.add 30).off = ad.off + 30 from rfl] at z3
      obtain ⟨ak, ek, yk⟩ := Kd.at_int g5 1 (by decide) (by decide)
      subst ek
      rw [hk1, show (1 : Int).toNat = 1 from rfl] at yk
      change w1.cell? ⟨ak.block, ak.off + 1, none⟩ = _ at yk
      have hdd : ((rd_T38 t 5).f3.toList == ([98] : List UInt8)) = true := beq_iff_eq.mpr hd
      have hl' : ((t.length : Int) == 6) = true := by rw [hl]; rfl
      generalize (rd_T38 t 5).f3 = f3 at *
      clear y0 y1 y2 y3 y4 z0 z1 z2 z4 z5 l2 g2 m2 n2 m5 n5 hC1 hd hk hk1 g5 l5
      go_upto_region 3 with (go_at_call 19; refine (PC2 _ (HG.out.below hb1')).mono ?_; rintro e w4 ⟨A2, c2, rfl, hc2, hC2, hb2⟩)
      have hb4 : Below w1.heap.size w1 w4 := below_then (below_alloc (Below.refl _ _) _) (below_alloc (Below.refl w1.heap.size w1) _).size hb2
      have x5 := pw_cell_below hb4 y5
      have x3 := pw_cell_below hb4 z3
      have xk := pw_cell_below hb4 yk
      have hb5 := below_then hb1' hb1'.size hb4
      clear y5 z3 yk hb2 hC2 PC2
      go_wp2_with fail
      go_ret
      exact ⟨rfl, hb5⟩
end Go.Proofs.YtpfhgolamlnhiaaGreatDoor
