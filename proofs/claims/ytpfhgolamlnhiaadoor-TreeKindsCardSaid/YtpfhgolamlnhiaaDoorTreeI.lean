/- tree.Build. -/
import Derived.Test.YtpfhgolamlnhiaaDoorTreeH
import Derived.Test.YtpfhgolamlnhiaaDoorTreeF
import Derived.Test.YtpfhgolamlnhiaaDoorTreeC
set_option linter.unusedVariables false
set_option linter.unusedSimpArgs false
namespace Go.Proofs.YtpfhgolamlnhiaaDoor
open Go.RowKit Go.Proofs.YtpfhgolamlnhiaaDoorW.PrintWords Go.Proofs.YtpfhgolamlnhiaaDoor.XT Go.Proofs.YtpfhgolamlnhiaaDoor.XA

/-- The first builder. -/
theorem bs0_at (w : World) : BdAt w.heap.size (w.heap.size + 1 + 1) bs0 (.slice (some ⟨w.heap.size, 0, none⟩) 1 1) (.slice (some ⟨w.heap.size + 1, 0, none⟩) 1 1) (((w.alloc (.cells #[.int .u8 0, .string ⟨#[]⟩, .slice none 0 0, .string ⟨#[]⟩, .int .i64 (-1), .slice none 0 0] 37)).alloc (.cells #[.int .i64 0] 3)).alloc (.cells #[.slice (some ⟨w.heap.size, 0, none⟩) 1 1, .slice (some ⟨w.heap.size + 1, 0, none⟩) 1 1, .slice none 0 0] 93)) := by
  have s1 : (w.alloc (.cells #[.int .u8 0, .string ⟨#[]⟩, .slice none 0 0, .string ⟨#[]⟩, .int .i64 (-1), .slice none 0 0] 37)).heap.size = w.heap.size + 1 := by simp
  have s2 : ((w.alloc (.cells #[.int .u8 0, .string ⟨#[]⟩, .slice none 0 0, .string ⟨#[]⟩, .int .i64 (-1), .slice none 0 0] 37)).alloc (.cells #[.int .i64 0] 3)).heap.size = w.heap.size + 1 + 1 := by simp
  have o1 := World.ownsRow_lit (base := w.heap.size) (e := 37) (size := 6) w #[.int .u8 0, .string ⟨#[]⟩, .slice none 0 0, .string ⟨#[]⟩, .int .i64 (-1), .slice none 0 0] 1 (Nat.le_refl _) (by decide) (by decide)
  have o2 := World.ownsRow_lit (base := w.heap.size) (e := 3) (size := 1) (w.alloc (.cells #[.int .u8 0, .string ⟨#[]⟩, .slice none 0 0, .string ⟨#[]⟩, .int .i64 (-1), .slice none 0 0] 37)) #[.int .i64 0] 1 (by rw [s1]; omega) (by decide) (by decide)
  rw [s1] at o2
  refine ⟨by rw [← s2]; exact blk_new _ _, ?_, ?_⟩
  · refine ⟨fun _ => 0, fun k hk => ?_, _, own_alloc (own_alloc o1 _) _, rfl, fun j p hj => ?_⟩
    · intro e
      rw [← hk] at e
      simp [Value.ownBlock] at e
    · have hj0 : j = 0 := by
        have := (List.getElem?_eq_some_iff.1 hj).1
        simp [bs0] at this
        omega
      subst hj0
      obtain rfl : (⟨0, ⟨#[]⟩, [], ⟨#[]⟩, -1, []⟩, 0) = p := by
        have : (bs0.t.zipIdx)[0]? = some (⟨0, ⟨#[]⟩, [], ⟨#[]⟩, -1, []⟩, 0) := rfl
        exact Option.some.inj (this.symm.trans hj)
      exact k37_mkM _ _ _ ⟨0, ⟨#[]⟩, [], ⟨#[]⟩, -1, []⟩ (Kd.R_nil _ _ _ _ _) (Kd.R_nil _ _ _ _ _)
  · exact Kd.Q_of_R (Kd.R_of_own (enc := Value.int .i64) (h1 := fun _ => rfl) (xs := ([0] : List Int)) (own_alloc o2 _) (fun _ _ => trivial))
theorem buildGo_drop {k i : Nat} {l : List S95} {b : Bs} {res : List NodeD × Int × Int} (hlt : i < l.length) (h : buildGo k (l.drop i) i b = some res) :
    ∃ r, tokB k b i (rd_T95 l i) = some r ∧ (if r.1 = 0 then buildGo k (l.drop (i + 1)) ((i + 1 : Nat) : Int) r.2 = some res else ([], r.1, (i : Int)) = res) := by
  rw [List.drop_eq_getElem_cons hlt, buildGo] at h
  have hr : rd_T95 l (i : Int) = l[i] := by
    unfold rd_T95
    simp [List.getD_eq_getElem?_getD, hlt]
  rw [hr]
  obtain ⟨r, h1, h2⟩ := Option.bind_eq_some_iff.1 h
  refine ⟨r, h1, ?_⟩
  by_cases h0 : r.1 = 0
  · rw [if_pos h0] at h2 ⊢
    exact h2
  · rw [if_neg h0] at h2 ⊢
    exact Option.some.inj h2
set_option maxHeartbeats 8000000 in
set_option maxRecDepth 100000 in
theorem build_calls (k : Nat) (A : Option Addr) (c : Nat) (l : List S95) (t : List NodeD) (er pl : Int) (w : World) (hr : Kd.C k95 w A l.length l) (hc : l.length ≤ c) (h : buildK k l = some (t, er, pl)) :
    Calls Tryd.prog 36 #[.slice A l.length c] w fun e w' => ∃ A' c', e = .returned (.tuple #[.slice A' t.length c', .int .i64 er, .int .i64 pl]) ∧ t.length ≤ c' ∧ Kd.C k37 w' A' t.length t ∧ Below w.heap.size w w' := by
  have hlen : l.length ≤ 9223372036854775807 := hr.2.1
  have HR := Lib.hid hr
  have HH : Hid (buildGo k (l.drop 0) ((0 : Nat) : Int) bs0 = some (t, er, pl)) := Lib.hid h
  have H0 := Lib.hid (bs0_at w)
  have HB : Hid (Below w.heap.size w (((w.alloc (.cells #[.int .u8 0, .string ⟨#[]⟩, .slice none 0 0, .string ⟨#[]⟩, .int .i64 (-1), .slice none 0 0] 37)).alloc (.cells #[.int .i64 0] 3)).alloc (.cells #[.slice (some ⟨w.heap.size, 0, none⟩) 1 1, .slice (some ⟨w.heap.size + 1, 0, none⟩) 1 1, .slice none 0 0] 93))) := Lib.hid (below_alloc (below_alloc (below_alloc (Below.refl _ _) _) _) _)
  clear hr h
  go_enter Tryd.func36, Tryd.ntmps36
  go_wp2_with fail
  generalize hgd : w.heap.size + 1 + 1 = g at *
  have hg0 : w.heap.size ≤ g := by omega
  clear hgd
  go_loopw [16, 6, 7, 8] (fun v16 v6 v7 v8 wr => ∃ (i : Nat) (b : Bs), v16 = .int .i64 i ∧ i ≤ l.length ∧ Hid (buildGo k (l.drop i) (i : Int) b = some (t, er, pl)) ∧ Hid (BdEx w.heap.size g b wr) ∧ Hid (Below w.heap.size w wr)) (fun v16 v6 v7 v8 wr => l.length - (intOf v16).toNat)
  case atStart => exact ⟨0, bs0, rfl, Nat.zero_le _, HH, Lib.hid ⟨_, _, H0.out⟩, HB⟩
  case round =>
    obtain ⟨i, b, rfl, hi, hgo, hE, hBl⟩ := hrel
    by_cases hlt : i < l.length
    · obtain ⟨r, htk, hnx⟩ := buildGo_drop hlt hgo.out
      obtain ⟨ad, A2, c2, rfl, x0, x1, x2, x3, x4, l2, hC2⟩ := at_T95 HR.out (i : Int) (by omega) (by omega)
      simp only [Int.toNat_natCast] at x0 x1 x2 x3 x4
      have y0 := pw_cell_below hBl.out x0
      have y1 := pw_cell_below hBl.out x1
      have y2 := pw_cell_below hBl.out x2
      have y3 := pw_cell_below hBl.out x3
      have y4 := pw_cell_below hBl.out x4
      clear x0 x1 x2 x3 x4
      generalize rd_T95 l (i : Int) = tok at *
      have hwa : ∀ o : Obj, Below wr.heap.size wr (wr.alloc o) := fun o => below_alloc (Below.refl _ _) o
      have SC := fun (o : Obj) (hs : startB k b tok = some r) => start2_calls g k b tok A2 c2 r w (wr.alloc o) (hE.out.below (hwa o)) (below_then hBl.out hBl.out.size (hwa o)) hg0 hC2 l2 hs
      have EC := fun (o : Obj) (hs : endB k b tok.f1 = some r) => end2_calls w.heap.size g k b tok.f1 r w (wr.alloc o) (hE.out.below (hwa o)) (below_then hBl.out hBl.out.size (hwa o)) hg0 hs
      have TC := fun (o : Obj) (hs : textB b tok.f4 = some r) => text2_calls w.heap.size g b tok.f4 r w (wr.alloc o) (hE.out.below (hwa o)) (below_then hBl.out hBl.out.size (hwa o)) hg0 (Nat.le_trans hBl.out.size (hwa o).size) hs
      have hbo : ∀ o : Obj, Below w.heap.size w (wr.alloc o) := fun o => below_then hBl.out hBl.out.size (hwa o)
      have hEo : ∀ o : Obj, BdEx w.heap.size g b (wr.alloc o) := fun o => hE.out.below (hwa o)
      unfold tokB at htk
      clear hgo hwa hC2 l2
      by_cases k1 : tok.f0 = 1
      · rw [if_pos k1] at htk
        have q1 : (tok.f0 == 1) = true := beq_iff_eq.mpr k1
        have SC' := fun (o : Obj) => SC o htk
        clear SC EC TC htk hbo hEo k1
        obtain ⟨e1, b1⟩ := r
        dsimp only at hnx
        by_cases he : e1 = 0
        · rw [if_pos he] at hnx
          have HN := Lib.hid hnx
          have qe : (e1 != 0) = false := by rw [bne_eq_false_iff_eq]; exact he
          have HE := Lib.hid he
          clear hnx he
          go_wp2_with (go_at_call 53; refine (SC' _).mono ?_; rintro e w5 ⟨rfl, h5, b5⟩)
          exact ⟨⟨i + 1, b1, by go_num, by omega, HN, Lib.hid (h5 HE.out), Lib.hid b5⟩, by simp [intOf]; omega⟩
        · rw [if_neg he] at hnx
          simp only [Prod.mk.injEq] at hnx
          obtain ⟨rfl, rfl, rfl⟩ := hnx
          have qe : (e1 != 0) = true := by rw [bne_iff_ne]; exact he
          clear he
          go_wp2_with (go_at_call 53; refine (SC' _).mono ?_; rintro e w5 ⟨rfl, h5, b5⟩)
          go_ret3
          exact ⟨none, 0, rfl, Nat.le_refl _, Kd.C_nil _ _, b5⟩
      · rw [if_neg k1] at htk
        have q1 : (tok.f0 == 1) = false := beq_eq_false_iff_ne.mpr k1
        by_cases k2 : tok.f0 = 2
        · rw [if_pos k2] at htk
          have q2 : (tok.f0 == 2) = true := beq_iff_eq.mpr k2
          have EC' := fun (o : Obj) => EC o htk
          clear SC EC TC htk hbo hEo k1 k2
          obtain ⟨e1, b1⟩ := r
          dsimp only at hnx
          by_cases he : e1 = 0
          · rw [if_pos he] at hnx
            have HN := Lib.hid hnx
            have qe : (e1 != 0) = false := by rw [bne_eq_false_iff_eq]; exact he
            have HE := Lib.hid he
            clear hnx he
            go_wp2_with (go_at_call 54; refine (EC' _).mono ?_; rintro e w5 ⟨rfl, h5, b5⟩)
            exact ⟨⟨i + 1, b1, by go_num, by omega, HN, Lib.hid (h5), Lib.hid b5⟩, by simp [intOf]; omega⟩
          · rw [if_neg he] at hnx
            simp only [Prod.mk.injEq] at hnx
            obtain ⟨rfl, rfl, rfl⟩ := hnx
            have qe : (e1 != 0) = true := by rw [bne_iff_ne]; exact he
            clear he
            go_wp2_with (go_at_call 54; refine (EC' _).mono ?_; rintro e w5 ⟨rfl, h5, b5⟩)
            go_ret3
            exact ⟨none, 0, rfl, Nat.le_refl _, Kd.C_nil _ _, b5⟩
        · rw [if_neg k2] at htk
          have q2 : (tok.f0 == 2) = false := beq_eq_false_iff_ne.mpr k2
          by_cases k3 : tok.f0 = 3
          · rw [if_pos k3] at htk
            have q3 : (tok.f0 == 3) = true := beq_iff_eq.mpr k3
            have TC' := fun (o : Obj) => TC o htk
            clear SC EC TC htk hbo hEo k1 k2 k3
            obtain ⟨e1, b1⟩ := r
            dsimp only at hnx
            by_cases he : e1 = 0
            · rw [if_pos he] at hnx
              have HN := Lib.hid hnx
              have qe : (e1 != 0) = false := by rw [bne_eq_false_iff_eq]; exact he
              have HE := Lib.hid he
              clear hnx he
              go_wp2_with (go_at_call 55; refine (TC' _).mono ?_; rintro e w5 ⟨rfl, h5, b5⟩)
              exact ⟨⟨i + 1, b1, by go_num, by omega, HN, Lib.hid (h5 HE.out), Lib.hid b5⟩, by simp [intOf]; omega⟩
            · rw [if_neg he] at hnx
              simp only [Prod.mk.injEq] at hnx
              obtain ⟨rfl, rfl, rfl⟩ := hnx
              have qe : (e1 != 0) = true := by rw [bne_iff_ne]; exact he
              clear he
              go_wp2_with (go_at_call 55; refine (TC' _).mono ?_; rintro e w5 ⟨rfl, h5, b5⟩)
              go_ret3
              exact ⟨none, 0, rfl, Nat.le_refl _, Kd.C_nil _ _, b5⟩
          · rw [if_neg k3] at htk
            have q3 : (tok.f0 == 3) = false := beq_eq_false_iff_ne.mpr k3
            clear SC EC TC
            by_cases k5 : tok.f0 = 5 ∧ 0 < (i : Int)
            · rw [if_pos k5] at htk
              obtain rfl := Option.some.inj htk
              rw [if_neg (show ¬ ((51 : Int), b).1 = 0 from fun h => absurd (show (51 : Int) = 0 from h) (by decide))] at hnx
              simp only [Prod.mk.injEq] at hnx
              obtain ⟨rfl, rfl, rfl⟩ := hnx
              have q5 : (tok.f0 == 5) = true := beq_iff_eq.mpr k5.1
              have qi := k5.2
              clear htk k5 hEo
              go_wp2_with fail
              go_ret3
              exact ⟨none, 0, rfl, Nat.le_refl _, Kd.C_nil _ _, hbo _⟩
            · rw [if_neg k5] at htk
              obtain rfl := Option.some.inj htk
              rw [if_pos rfl] at hnx
              have HN := Lib.hid hnx
              have HBO := Lib.hid hbo
              have HEO := Lib.hid hEo
              clear htk hnx hbo hEo
              by_cases k6 : tok.f0 = 5
              · have q5 : (tok.f0 == 5) = true := beq_iff_eq.mpr k6
                have qi : ¬ 0 < (i : Int) := fun h => k5 ⟨k6, h⟩
                clear k5 k6 k3 k2 k1
                go_wp2_with fail
                exact ⟨⟨i + 1, b, by go_num, by omega, HN, Lib.hid (HEO.out _), Lib.hid (HBO.out _)⟩, by simp [intOf]; omega⟩
              · have q5 : (tok.f0 == 5) = false := beq_eq_false_iff_ne.mpr k6
                clear k5 k6 k3 k2 k1
                go_wp2_with fail
                exact ⟨⟨i + 1, b, by go_num, by omega, HN, Lib.hid (HEO.out _), Lib.hid (HBO.out _)⟩, by simp [intOf]; omega⟩
    · obtain rfl : i = l.length := by omega
      have hg := hgo.out
      rw [List.drop_length, buildGo] at hg
      simp only [Option.some.injEq, Prod.mk.injEq] at hg
      obtain ⟨rfl, rfl, rfl⟩ := hg
      obtain ⟨vt, vo, hA⟩ := hE.out
      obtain ⟨A', c', rfl, hc', hC'⟩ := Kd.S_reads hA.t
      have c0 := hA.cell0
      clear hA hlt hgo
      go_wp2_with fail
      go_ret3
      exact ⟨A', c', rfl, hc', hC', hBl.out⟩
end Go.Proofs.YtpfhgolamlnhiaaDoor
