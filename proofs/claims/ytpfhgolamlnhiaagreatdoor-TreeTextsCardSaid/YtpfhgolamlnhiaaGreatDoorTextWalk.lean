/- The chapter's example holds: as a plain value. -/
import Derived.Test.YtpfhgolamlnhiaaGreatDoorParse
import Derived.Lib.SlBytesConst
import Derived.Test.YtpfhgolamlnhiaaGreatDoorTextLaw
set_option linter.unusedVariables false
namespace Go.Proofs.YtpfhgolamlnhiaaGreatDoor
open Go.RowKit Go.Proofs.YtpfhgolamlnhiaaGreatDoorW.PrintWords Go.Proofs.YtpfhgolamlnhiaaGreatDoor.XT Go.Proofs.YtpfhgolamlnhiaaGreatDoor.XA

def ex1 : List Int := [60, 117, 108, 62, 60, 108, 105, 62, 97, 60, 108, 105, 62, 98, 60, 47, 117, 108, 62]
def ex2 : List Int := [60, 98, 62, 60, 112, 62, 120, 60, 47, 98, 62]
/-- What works asks, of the two answers. -/
def asks05 (a b : Option (List NodeD × Int × Int)) : Bool :=
  match a, b with
  | some (t, e, _), some (_, f, p) => decide (e = 0) && (decide (t.length = 6) && (decide ((rd_T38 t 1).f5.length = 2) && (decide (rd (rd_T38 t 1).f5 1 = 4) && (decide ((rd_T38 t 5).f3.toList = [98]) && (decide (f = 51) && decide (p = 3))))))
  | _, _ => false
set_option maxRecDepth 100000 in
theorem works05 : asks05 (parseK 60 ex1) (parseK 60 ex2) = true := by decide +kernel
theorem lit_reads (w : World) (e : TypeId) (fr : Nat × Nat) (xs : List Int) (n : Nat) (hn : xs.length = n) (hm : n ≤ maxLen) : Kd.C (Kd.int .u8) (w.alloc (.cells (nums .u8 xs).toArray e fr)) (some ⟨w.heap.size, 0, none⟩) n xs := by
  refine Kd.C_of_reads (enc := Value.int .u8) (d := (0 : Int)) (h1 := fun _ => rfl) ⟨hn, by simpa [maxLen] using hm, fun _ => ⟨_, rfl, fun j hj => ?_⟩⟩
  have hh : (w.alloc (.cells (nums .u8 xs).toArray e fr)).heap[w.heap.size]? = some (.cells (nums .u8 xs).toArray e fr) := heap_alloc_new w _
  rw [add_plain, cell_of_row _ _ j _ e fr hh]
  have hj2 : j < xs.length := by omega
  simp [nums, List.getD_eq_getElem?_getD, hj2]
set_option maxHeartbeats 4000000 in
set_option maxRecDepth 100000 in
theorem works05_calls (w : World) (hG : G2 w) :
    Calls Tryz.prog 13 #[] w fun e w' => e = .returned (.bool true) ∧ Below w.heap.size w w' := by
  have hw := works05
  unfold asks05 at hw
  cases h1 : parseK 60 ex1 with
  | none => rw [h1] at hw; cases hw
  | some r1 =>
    cases h2 : parseK 60 ex2 with
    | none => rw [h1, h2] at hw; cases hw
    | some r2 =>
      rw [h1, h2] at hw
      obtain ⟨t, e1, p1⟩ := r1
      obtain ⟨t2, e2, p2⟩ := r2
      simp only [Bool.and_eq_true, decide_eq_true_eq] at hw
      obtain ⟨rfl, hl, hk, hk1, hd, rfl, rfl⟩ := hw
      have HG := Lib.hid hG
      have hlen1 : ex1.length = 19 := rfl
      have hlen2 : ex2.length = 11 := rfl
      have PC1 := parse_calls 60 (some ⟨w.heap.size, 0, none⟩) 19 ex1 t 0 p1 (w.alloc (.cells (nums .u8 ex1).toArray 5 (19, 20))) (lit_reads w 5 (19, 20) ex1 19 rfl (by decide)) (by decide) (HG.out.below (below_alloc (Below.refl _ _) _)) h1
      have PC2 := fun (w2 : World) (hg : G2 w2) => parse_calls 60 (some ⟨w2.heap.size, 0, none⟩) 11 ex2 t2 51 3 (w2.alloc (.cells (nums .u8 ex2).toArray 5 (11, 12))) (lit_reads w2 5 (11, 12) ex2 11 rfl (by decide)) (by decide) (hg.below (below_alloc (Below.refl _ _) _)) h2
      rw [hlen1] at PC1
      rw [hlen2] at PC2
      clear hlen1 hlen2
      clear h1 h2 hG
      go_enter Tryz.func13, Tryz.ntmps13
      go_wp2_with fail
      rw [Lib.run_convert_bytes_const (ht := Tryz.underlying44) (he := Tryz.underlying5)]
      simp only [Result.andThen]
      rw [Oper.upon_value]
      go_wp2_with (go_at_call 19; refine PC1.mono ?_; rintro e w1 ⟨A1, c1, rfl, hc1, hC1, hb1⟩)
      have hb1' : Below w.heap.size w w1 := below_then (below_alloc (Below.refl _ _) _) (below_alloc (Below.refl w.heap.size w) _).size hb1
      clear hb1 PC1
      rw [Lib.run_convert_bytes_const (ht := Tryz.underlying44) (he := Tryz.underlying5)]
      simp only [Result.andThen]
      rw [Oper.upon_value]
      obtain ⟨ad, B2, b2, B5, b5, rfl, y0, y1, y2, y3, y4, y5, l2, g2, l5, g5⟩ := at_T38 hC1 1 (by decide) (by rw [hl]; decide)
      obtain ⟨ad', D2, d2, D5, d5, ea, z0, z1, z2, z3, z4, z5, m2, n2, m5, n5⟩ := at_T38 hC1 5 (by decide) (by rw [hl]; decide)
      injection ea with ea
      subst ea
      rw [show (1 : Int).toNat * 6 = 6 from rfl] at y5
      rw [show (5 : Int).toNat * 6 = 30 from rfl] at z3
      rw [hk] at y5 g5
      rw [show (ad.add 6).block = ad.block from rfl, show (ad.add 6).off = ad.off + 6 from rfl] at y5
      rw [show (ad.add 30).block = ad.block from rfl, show (ad.add 30).off = ad.off + 30 from rfl] at z3
      obtain ⟨ak, ek, yk⟩ := Kd.at_int g5 1 (by decide) (by decide)
      subst ek
      rw [hk1, show (1 : Int).toNat = 1 from rfl] at yk
      change w1.cell? ⟨ak.block, ak.off + 1, none⟩ = _ at yk
      have hdd : ((rd_T38 t 5).f3.toList == ([98] : List UInt8)) = true := beq_iff_eq.mpr hd
      have hl' : ((t.length : Int) == 6) = true := by rw [hl]; rfl
      generalize (rd_T38 t 5).f3 = f3 at *
      clear y0 y1 y2 y3 y4 z0 z1 z2 z4 z5 l2 g2 m2 n2 m5 n5 hC1 hd hk hk1 g5 l5
      go_upto_region 3 with (go_at_call 19; refine (PC2 _ (HG.out.below hb1')).mono ?_; rintro e w4 ⟨A2, c2, rfl, hc2, hC2, hb2⟩)
      have hb4 : Below w1.heap.size w1 w4 := below_then (below_alloc (Below.refl _ _) _) (below_alloc (Below.refl w1.heap.size w1) _).size hb2
      have x5 := pw_cell_below hb4 y5
      have x3 := pw_cell_below hb4 z3
      have xk := pw_cell_below hb4 yk
      have hb5 := below_then hb1' hb1'.size hb4
      clear y5 z3 yk hb2 hC2 PC2
      go_wp2_with fail
      go_ret
      exact ⟨rfl, hb5⟩
end Go.Proofs.YtpfhgolamlnhiaaGreatDoor

set_option linter.unusedVariables false
set_option linter.unusedSimpArgs false
namespace Go.Proofs.YtpfhgolamlnhiaaGreatDoor.Pure
open Go.RowKit Go.Proofs.YtpfhgolamlnhiaaGreatDoor Go.Proofs.YtpfhgolamlnhiaaGreatDoorW.PrintWords Go.Proofs.YtpfhgolamlnhiaaGreatDoorW.PrintLast Go.Proofs.YtpfhgolamlnhiaaGreatDoor.XT Go.Proofs.YtpfhgolamlnhiaaGreatDoor.XA Go.Proofs.YtpfhgolamlnhiaaGreatDoor.XF Go.Proofs.YtpfhgolamlnhiaaGreatDoor.Ascii Go.Proofs.YtpfhgolamlnhiaaGreatDoor.Val

theorem bytes_reads (w : World) (e : TypeId) (s : ByteArray) (hs : s.size ≤ 65536) : (Kd.int .u8).C (Lib.bytesWorld w e s) (some ⟨w.heap.size, 0, none⟩) s.size (bytesOf s) := by
  refine Kd.C_of_reads (enc := Value.int .u8) (d := (0 : Int)) (h1 := fun _ => rfl) ⟨bytesOf_length s, by omega, fun _ => ⟨_, rfl, fun j hj => ?_⟩⟩
  rw [add_plain, (smAt0 s w e j hj).1]
  congr 2
  unfold smI bytesOf
  rw [if_neg (by omega)]
  have hl : j < s.data.toList.length := by rw [Sv.size_list]; exact hj
  simp [List.getD_eq_getElem?_getD, List.getElem?_eq_getElem hl]
/-- tree.Parse of a string's bytes. -/
theorem parse_bytes (k : Nat) (X : ByteArray) (hx : X.size ≤ 65536) (t : List NodeD) (er pl : Int) (w w3 : World) (HG : G2 w) (hP : parseK k (bytesOf X) = some (t, er, pl)) (hb : Below w.heap.size w w3) :
    Calls Tryz.prog 19 #[.slice (some ⟨w3.heap.size, 0, none⟩) X.size (grownCap w3 X.size 0 5)] (Lib.bytesWorld w3 5 X)
      fun e w' => ∃ A' c', e = .returned (.tuple #[.slice A' t.length c', .int .i64 er, .int .i64 pl]) ∧ t.length ≤ c' ∧ Kd.C k38 w' A' t.length t ∧ Below w.heap.size w w' := by
  have hb4 := bytesWorld_below w3 5 X
  have hb5 := below_then hb hb.size hb4
  have hC := bytes_reads w3 5 X hx
  have h := parse_calls k _ (grownCap w3 X.size 0 5) (bytesOf X) t er pl _ (by rw [bytesOf_length]; exact hC) (by rw [bytesOf_length]; exact grownCap_ge ..) (HG.below hb5) hP
  rw [bytesOf_length] at h
  refine h.mono ?_
  rintro e w' ⟨A', c', he, hc, hC', hb6⟩
  exact ⟨A', c', he, hc, hC', below_then hb5 hb5.size hb6⟩
theorem cat_cmt (a b : ByteArray) : a ++ (⟨#[60, 33, 45, 45, 120, 45, 45, 62]⟩ : ByteArray) ++ b = T (a.data.toList ++ (cmt ++ b.data.toList)) := by
  obtain ⟨⟨la⟩⟩ := a
  obtain ⟨⟨lb⟩⟩ := b
  apply ByteArray.ext
  apply Array.ext'
  simp [T, cmt]
set_option maxHeartbeats 8000000 in
set_option maxRecDepth 100000 in
theorem treeTexts_calls (a0 a1 : ByteArray) (w : World) (hG : G2 w) (hw0 : a0.size ≤ 140737488351232) (hw1 : a1.size ≤ 140737488351232) : Calls Tryz.prog 4 #[.string a0, .string a1] w fun e w' => e = .returned (.bool true) ∧ Below w.heap.size w w' := by
  have HG := Lib.hid hG
  have WC := fun (w' : World) (h : Below w.heap.size w w') => works05_calls w' (HG.out.below h)
  clear hG
  obtain ⟨S, hS⟩ : ∃ S, a0 ++ a1 = S := ⟨_, rfl⟩
  have hSz : S.size = a0.size + a1.size := by rw [← hS, ByteArray.size_append]
  have HZ := Lib.hid hSz
  have HS := Lib.hid hS
  have HT := Lib.hid (cat_cmt a0 a1)
  clear hS hSz
  go_enter Tryz.func4, Tryz.ntmps4
  go_upto_region 2 with fail
  rw [HS.out]
  by_cases hl : 1000 < a0.size
  · have hl' : (1000 : Int) < (a0.size : Int) := by omega
    go_wp2_with (first | (go_at_call 13; refine (WC _ (Below.refl _ _)).mono ?_; rintro e w9 ⟨rfl, hb9⟩))
    go_ret
    exact ⟨rfl, hb9⟩
  have hl' : ¬ (1000 : Int) < (a0.size : Int) := by omega
  by_cases hm : 1000 < a1.size
  · have hm' : (1000 : Int) < (a1.size : Int) := by omega
    go_wp2_with (first | (go_at_call 13; refine (WC _ (Below.refl _ _)).mono ?_; rintro e w9 ⟨rfl, hb9⟩))
    go_ret
    exact ⟨rfl, hb9⟩
  have hm' : ¬ (1000 : Int) < (a1.size : Int) := by omega
  by_cases hz : S.size = 0
  · have hq : (S.toList == ([] : List UInt8)) = true := by
      rw [Lib.toList_data, beq_iff_eq]
      exact List.eq_nil_of_length_eq_zero (by rw [Sv.size_list]; exact hz)
    go_wp2_with (first | (go_at_call 13; refine (WC _ (Below.refl _ _)).mono ?_; rintro e w9 ⟨rfl, hb9⟩))
    go_ret
    exact ⟨rfl, hb9⟩
  have hq : (S.toList == ([] : List UInt8)) = false := by
    rw [Lib.toList_data, beq_eq_false_iff_ne]
    intro he
    have := Sv.size_list S
    rw [he] at this
    exact hz this.symm
  obtain ⟨b0, k0, -⟩ := well_some a0 (by omega) 2000 (by omega)
  obtain ⟨b1, k1, -⟩ := well_some a1 (by omega) 2000 (by omega)
  have A0 := fun (w1 : World) => selvedgeref05_Well.calls 2000 a0 b0 w1 k0
  have A1 := fun (w1 : World) => selvedgeref05_Well.calls 2000 a1 b1 w1 k1
  have HK0 := Lib.hid k0
  have HK1 := Lib.hid k1
  clear k0 k1
  cases b0 with
  | false =>
    go_wp2_with (first | (go_at_call 18; refine (A0 _).mono ?_; rintro e w1 ⟨rfl, hb1⟩; clear A0) | (go_at_call 13; refine (WC _ hb1).mono ?_; rintro e w9 ⟨rfl, hb9⟩))
    go_ret
    exact ⟨rfl, below_then hb1 hb1.size hb9⟩
  | true =>
  cases b1 with
  | false =>
    go_wp2_with (first | (go_at_call 18; refine (A0 _).mono ?_; rintro e w1 ⟨rfl, hb1⟩; clear A0) | (go_at_call 18; refine (A1 _).mono ?_; rintro e w2 ⟨rfl, hb2⟩; have hb12 := below_then hb1 hb1.size hb2; clear A1) | (go_at_call 13; refine (WC _ hb12).mono ?_; rintro e w9 ⟨rfl, hb9⟩))
    go_ret
    exact ⟨rfl, below_then hb12 hb12.size hb9⟩
  | true =>
  have HV0 := Lib.hid (well_V a0 (by omega) 2000 0 (Nat.zero_le _) HK0.out)
  have HV1 := Lib.hid (well_V a1 (by omega) 2000 0 (Nat.zero_le _) HK1.out)
  clear HK0 HK1
  have hS2 : S.size ≤ 2000 := by have := HZ.out; omega
  go_wp2_with (first | (go_at_call 18; refine (A0 _).mono ?_; rintro e w1 ⟨rfl, hb1⟩; clear A0) | (go_at_call 18; refine (A1 _).mono ?_; rintro e w2 ⟨rfl, hb2⟩; have hb12 := below_then hb1 hb1.size hb2; clear A1))
  have HB2 := Lib.hid hb12
  clear hb1 hb2 hb12 hq
  go_loopw [6] (fun v6 wz => ∃ i : Nat, v6 = .int .i64 i ∧ i ≤ S.size ∧ Hid (∀ j (h : j < S.size), j < i → S[j].toNat ≠ 60 ∧ S[j].toNat ≠ 38 ∧ S[j].toNat ≠ 13) ∧ Hid (Below w.heap.size w wz)) (fun v6 wz => S.size - (intOf v6).toNat)
  case atStart => exact ⟨0, rfl, Nat.zero_le _, Lib.hid (fun j h h' => absurd h' (by omega)), HB2⟩
  case round =>
    obtain ⟨i, rfl, hi, hN, hB⟩ := hrel
    by_cases hlt : i < S.size
    · by_cases c1 : S[i].toNat = 60
      · have q1 : ((S[i].toNat : Int) == 60) = true := by rw [beq_iff_eq]; omega
        go_wp2_with (first | (go_at_call 13; refine (WC _ hB.out).mono ?_; rintro e w9 ⟨rfl, hb9⟩))
        go_ret
        exact ⟨rfl, below_then hB.out hB.out.size hb9⟩
      have q1 : ((S[i].toNat : Int) == 60) = false := by rw [beq_eq_false_iff_ne]; omega
      by_cases c2 : S[i].toNat = 38
      · have q2 : ((S[i].toNat : Int) == 38) = true := by rw [beq_iff_eq]; omega
        go_wp2_with (first | (go_at_call 13; refine (WC _ hB.out).mono ?_; rintro e w9 ⟨rfl, hb9⟩))
        go_ret
        exact ⟨rfl, below_then hB.out hB.out.size hb9⟩
      have q2 : ((S[i].toNat : Int) == 38) = false := by rw [beq_eq_false_iff_ne]; omega
      by_cases c3 : S[i].toNat = 13
      · have q3 : ((S[i].toNat : Int) == 13) = true := by rw [beq_iff_eq]; omega
        go_wp2_with (first | (go_at_call 13; refine (WC _ hB.out).mono ?_; rintro e w9 ⟨rfl, hb9⟩))
        go_ret
        exact ⟨rfl, below_then hB.out hB.out.size hb9⟩
      have q3 : ((S[i].toNat : Int) == 13) = false := by rw [beq_eq_false_iff_ne]; omega
      have HN : Hid (∀ j (h : j < S.size), j < i + 1 → S[j].toNat ≠ 60 ∧ S[j].toNat ≠ 38 ∧ S[j].toNat ≠ 13) := Lib.hid (fun j hj hji => by
        rcases Nat.lt_or_ge j i with h5 | h5
        · exact hN.out j hj h5
        · obtain rfl : j = i := by omega
          exact ⟨c1, c2, c3⟩)
      clear c1 c2 c3 hN
      go_wp2_with fail
      exact ⟨⟨i + 1, by go_num, by omega, HN, hB⟩, by simp [intOf]; omega⟩
    · obtain rfl : i = S.size := by omega
      have hall : ∀ c ∈ (a0 ++ a1).data.toList, c ≠ 60 ∧ c ≠ 38 ∧ c ≠ 13 := by
        rw [HS.out]
        intro c hc
        obtain ⟨j, hj, rfl⟩ := List.mem_iff_getElem.1 hc
        have hj' : j < S.size := by rw [← Sv.size_list]; exact hj
        have h := hN.out j hj' hj'
        have e : S.data.toList[j] = S[j] := rfl
        rw [e]
        refine ⟨fun h2 => h.1 ?_, fun h2 => h.2.1 ?_, fun h2 => h.2.2 ?_⟩ <;> (rw [h2]; rfl)
      have PN := parse_cmt a0 a1 HV0.out HV1.out (by omega) (by omega) (by rw [HS.out]; omega) hall
      have hsz : (T (a0.data.toList ++ (cmt ++ a1.data.toList))).size ≤ 65536 := by
        rw [T_size, List.length_append, List.length_append, Sv.size_list, Sv.size_list]
        show a0.size + (8 + a1.size) ≤ 65536
        omega
      rw [HS.out] at PN
      generalize hX : T (a0.data.toList ++ (cmt ++ a1.data.toList)) = X at *
      have HX := Lib.hid hX
      have PC := fun w3 hb => parse_bytes 3000 X hsz (bText S).t 0 0 w w3 HG.out PN hb
      rw [show (bText S).t.length = 2 from rfl] at PC
      clear hall hN HV0 HV1 PN hX
      go_wp2_with fail
      rw [Lib.run_convert_string_bytes _ 9 44 5 _ Tryz.underlying9 Tryz.underlying44 Tryz.underlying5]
      simp only [Result.andThen]
      rw [Oper.upon_value]
      rw [show a0 ++ (⟨#[60, 33, 45, 45, 120, 45, 45, 62]⟩ : ByteArray) ++ a1 = X from HT.out]
      have PX := PC wr hB.out
      generalize Lib.bytesWorld wr 5 X = wX at *
      generalize grownCap wr X.size 0 5 = cX at *
      generalize wr.heap.size = gX at *
      clear PC
      go_upto_region 10 with (go_at_call 19; refine PX.mono ?_; rintro e w4 ⟨A4, c4, rfl, hc4, hC4, hb4⟩)
      obtain ⟨ad, B2, b2, B5, b5, rfl, y0, y1, y2, y3, y4, y5, l2, g2, l5, g5⟩ := at_T38 hC4 1 (by decide) (by decide)
      rw [show (1 : Int).toNat * 6 = 6 from rfl] at y0 y3
      rw [show (ad.add 6).block = ad.block from rfl, show (ad.add 6).off = ad.off + 6 from rfl] at y3
      rw [show (rd_T38 (bText S).t 1).f0 = 2 from rfl] at y0
      rw [show (rd_T38 (bText S).t 1).f3 = S from rfl] at y3
      rw [show ad.add 6 = ⟨ad.block, ad.off + 6, none⟩ from rfl] at y0
      clear y1 y2 y4 y5 l2 g2 l5 g5
      go_wp2_with (go_at_call 13; refine (WC _ hb4).mono ?_; rintro e w9 ⟨rfl, hb9⟩)
      go_ret
      exact ⟨rfl, below_then hb4 hb4.size hb9⟩
end Go.Proofs.YtpfhgolamlnhiaaGreatDoor.Pure
