/- token.reader.tag. -/
import Derived.Test.YtpfhgolamlnhiaaGreatDoorTokA
set_option linter.unusedVariables false
set_option linter.unusedSimpArgs false
namespace Go.Proofs.YtpfhgolamlnhiaaGreatDoor
open Go.RowKit Go.Proofs.YtpfhgolamlnhiaaGreatDoorW.PrintWords Go.Proofs.YtpfhgolamlnhiaaGreatDoorW.PrintLast Go.Proofs.YtpfhgolamlnhiaaGreatDoor.XT Go.Proofs.YtpfhgolamlnhiaaGreatDoor.XQ

theorem rA : ∀ q, q ∈ (40 : Nat) :: (k40).E → q ≠ 109 := by decide
theorem rAT : ∀ q, q ∈ (40 : Nat) :: (k40).E → q ≠ 25 := by decide
/-- A reader in the midst of a tag: the token lies in block tb, its attributes are a row made behind it. -/
structure RdT (g tb : Nat) (s : ByteArray) (i : Nat) (acc : List TokD) (out : Value) (kind : Int) (name : ByteArray) (ats : List AttrD) (av : Value) (sf : Bool) (w0 w : World) : Prop where
  box : RdAt g s i out w
  tk : w.heap[tb]? = some (.cells #[.int .u8 kind, .string name, av, .bool sf, .string ⟨#[]⟩] 25 (0, 0))
  row : Kd.R k25 25 w w0.heap.size (fun k => k < tb) out acc
  arow : Kd.R k40 40 w tb (fun _ => True) av ats
  below : Below w0.heap.size w0 w
  g0 : w0.heap.size ≤ g
  gt : g < tb
section
variable {g tb : Nat} {s : ByteArray} {i j : Nat} {acc : List TokD} {out : Value} {kind : Int} {name : ByteArray} {ats : List AttrD} {av : Value} {sf : Bool} {w0 w w' : World}
theorem RdT.ne (h : RdT g tb s i acc out kind name ats av sf w0 w) : tb ≠ g := by have := h.gt; omega
theorem RdT.t0 (h : RdT g tb s i acc out kind name ats av sf w0 w) : w0.heap.size ≤ tb := by have := h.gt; have := h.g0; omega
theorem Rdr.tok (h : Rdr g s i acc out w0 w) (kind : Int) (name : ByteArray) :
    RdT g w.heap.size s i acc out kind name [] (.slice none 0 0) false w0 (w.alloc (.cells #[.int .u8 kind, .string name, .slice none 0 0, .bool false, .string ⟨#[]⟩] 25)) := by
  have hlt : g < w.heap.size := blk_lt h.box
  refine ⟨blk_alloc h.box _, blk_new _ _, ?_, Kd.R_nil _ _ _ _ _, below_alloc h.below _, h.g0, hlt⟩
  exact Kd.R_mono (Kd.R_below (Kd.R_bound h.row) (below_alloc (Below.refl _ _) _)) (fun k hk => hk.2.2.1)
theorem RdT.fr (h : RdT g tb s i acc out kind name ats av sf w0 w) (hb : RdAt g s j out w') (hf : Fr g w w') : RdT g tb s j acc out kind name ats av sf w0 w' :=
  ⟨hb, (hf.block tb (blk_lt h.tk) h.ne).trans h.tk, Kd.R_mono (Kd.R_keep (Kd.R_types h.row h.box rE) hf.keep (fun _ hk => hk.2)) (fun _ hk => hk.1), Kd.R_mono (Kd.R_keep (Kd.R_types h.arow h.box rA) hf.keep (fun _ hk => hk.2)) (fun _ hk => hk.1), hf.below h.below h.g0 h.below.size, h.g0, h.gt⟩
theorem RdT.later (h : RdT g tb s i acc out kind name ats av sf w0 w) (hb : Below w.heap.size w w') : RdT g tb s i acc out kind name ats av sf w0 w' := h.fr (h.box.below hb) (Fr.of_below hb)
theorem RdT.drewN (h : RdT g tb s i acc out kind name ats av sf w0 w) (n : Nat) : RdT g tb s i acc out kind name ats av sf w0 (w.drewN n) := h.later (pw_below_drewN (Below.refl _ _) n)
theorem RdT.move (h : RdT g tb s i acc out kind name ats av sf w0 w) (j : Nat) {z : Int} (hz : z = j) : RdT g tb s j acc out kind name ats av sf w0 (w.setCell ⟨g, 1, none⟩ (.int .i64 z)) := h.fr (h.box.at_ j hz) ((Fr.refl g w).set 1 _)
theorem RdT.selfed (h : RdT g tb s i acc out kind name ats av false w0 w) : RdT g tb s i acc out kind name ats av true w0 (w.setCell ⟨tb, 3, none⟩ (.bool true)) :=
  ⟨blk_far h.box (Ne.symm h.ne) _, blk_put h.tk 3 _ rfl, Kd.R_far (p := ⟨tb, 3, none⟩) h.row (fun k hk => by show k ≠ tb; omega) _, Kd.R_set h.arow h.tk rAT 3 _, h.below.setCell h.t0 _, h.g0, h.gt⟩
theorem RdT.tcell (h : RdT g tb s i acc out kind name ats av sf w0 w) (j : Nat) : w.cell? ⟨tb, j, none⟩ = (#[.int .u8 kind, .string name, av, .bool sf, .string ⟨#[]⟩] : Array Value)[j]? := blk_cell h.tk j
theorem RdT.tfrz (h : RdT g tb s i acc out kind name ats av sf w0 w) (j : Nat) : w.frozen? ⟨tb, j, none⟩ = false := blk_frozen h.tk j
/-- An attribute has been put behind the others; then the row's value goes into the token. -/
theorem RdT.grown {v1 : Value} {a : AttrD} {w1 : World} (h : RdT g tb s i acc out kind name ats av sf w0 w) (ho : Kd.R k40 40 w1 tb (fun _ => True) v1 (ats ++ [a])) (hb : Below w0.heap.size w0 w1) (hg : w.grownBy w1 av.ownBlock) :
    RdT g tb s i acc out kind name (ats ++ [a]) v1 sf w0 (w1.setCell ⟨tb, 2, none⟩ v1) := by
  have b1 : RdAt g s i out w1 := blk_grown h.box hg (Kd.R_ne h.arow h.box (by decide))
  have t1 := blk_grown h.tk hg (Kd.R_ne h.arow h.tk (by decide))
  have r1 : Kd.R k25 25 w1 w0.heap.size (fun k => k < tb) out acc := Kd.R_grown h.row hg (fun k hk he => by have := Kd.R_base h.arow k he.symm; omega)
  have hone : v1.oneCell' = true := (Kd.R_val ho).2
  exact ⟨blk_far b1 (Ne.symm h.ne) _, blk_put t1 2 _ rfl, Kd.R_far (p := ⟨tb, 2, none⟩) r1 (fun k hk => by show k ≠ tb; omega) _, Kd.R_set ho t1 rAT 2 _, hb.setCell h.t0 _, h.g0, h.gt⟩
end
set_option maxHeartbeats 16000000 in
set_option maxRecDepth 100000 in
theorem tag_calls (g : Nat) (s : ByteArray) (i k : Nat) (kind : Int) (acc : List TokD) (out : Value) (r : Int × Nat × TokD) (w0 w : World) (h : Rdr g s i acc out w0 w) (hG : G2 w0) (hi : i ≤ s.size) (hs : s.size ≤ 65536) (hl : acc.length < 65536) (hk : kind = 1 ∨ kind = 2)
    (hr : tagK k s kind i = some r) :
    Calls Tryz.prog 126 #[.pointer (some ⟨g, 0, none⟩), .int .u8 kind] w fun e w' => e = .returned (.int .i64 r.1) ∧ (r.1 = 0 → ∃ out', Rdr g s r.2.1 (acc ++ [r.2.2]) out' w0 w') ∧ Below w0.heap.size w0 w' := by
  have H := Lib.hid h
  have HG := Lib.hid hG
  have HS := Lib.hid hs
  have HL := Lib.hid hl
  have hs9 : s.size ≤ 4611686018427387904 := by omega
  unfold tagK at hr
  dsimp only at hr
  rw [show tagStops = (⟨#[9, 10, 12, 32, 47, 62]⟩ : ByteArray) from rfl] at hr
  obtain ⟨m, hm, hr⟩ := Option.bind_eq_some_iff.1 hr
  have hxs : (s.extract i s.size).size = s.size - i := by rw [ByteArray.size_extract]; omega
  have hn := uptoGo_le (⟨#[9, 10, 12, 32, 47, 62]⟩ : ByteArray).data.toList (s.extract i s.size) ((s.extract i s.size).size + 1) 0 (by omega)
  change _ ∧ uptoN (⟨#[9, 10, 12, 32, 47, 62]⟩ : ByteArray).data.toList (s.extract i s.size) ≤ _ at hn
  have UC := fun (w1 : World) (h1 : RdAt g s i out w1) => upto_calls g s i out ⟨#[9, 10, 12, 32, 47, 62]⟩ w1 h1 hi hs9
  have hns : ((s.extract i s.size).extract 0 (uptoN (⟨#[9, 10, 12, 32, 47, 62]⟩ : ByteArray).data.toList (s.extract i s.size))).size ≤ 65536 := by rw [ByteArray.size_extract]; omega
  generalize uptoN (⟨#[9, 10, 12, 32, 47, 62]⟩ : ByteArray).data.toList (s.extract i s.size) = n at *
  generalize (s.extract i s.size).extract 0 n = nm at *
  generalize hname : smallS nm = name at *
  have SC := fun (w1 : World) => small_calls nm w1 hns
  rw [hname] at SC
  have MC := fun (w1 : World) => token_made.calls k name ⟨#[]⟩ m w1 hm
  clear hm h hs hl hG
  go_enter Tryz.func126, Tryz.ntmps126
  go_wp2
  go_step3
  go_wp2_with (first | (go_at_call 132; refine (UC _ H.out.box).mono ?_; rintro e w1 ⟨rfl, hb1, hf1⟩) | (go_at_call 131; refine (SC _).mono ?_; rintro e w2 ⟨rfl, hb2⟩))
  refine (MC _).mono ?_
  rintro e w3 ⟨rfl, hd3⟩
  dsimp only
  have HT := Lib.hid (((H.out.fr hb1 hf1).later hb2).tok kind name |>.later hd3.below)
  clear hb1 hf1 hb2 hd3 UC SC MC H
  generalize w2.heap.size = tb at *
  cases m
  · rw [if_pos rfl] at hr
    obtain rfl := Option.some.inj hr
    go_wp2_with fail
    (try rw [Exit.noGoto_ret])
    go_ret
    exact ⟨rfl, HT.out.below⟩
  rw [if_neg (by decide)] at hr
  have hin : i + n ≤ s.size := by omega
  have HR := Lib.hid hr
  clear hr hn hxs hi hns
  go_wp2
  go_step3
  go_upto_block 0 with fail
  go_cut [4, 6, 7, 9] from 19 to 86 (fun v4 v6 v7 v9 wd => v4 = .int .i64 0 ∧ Hid (∃ (i2 : Nat) (ats : List AttrD) (av : Value) (sf : Bool), tagFin kind name sf ats i2 = some r ∧ RdT g tb s i2 acc out kind name ats av sf w0 wd))
  case first =>
    go_wp2_with fail
    go_loopg [4, 6, 7, 9] k (fun kq v4 v6 v7 v9 wz => ∃ (i2 : Nat) (ats : List AttrD) (av : Value), v4 = .int .i64 0 ∧ i2 ≤ s.size ∧ ats.length ≤ 16 ∧ Hid (tagGo k s kind name kq i2 ats = some r) ∧ Hid (RdT g tb s i2 acc out kind name ats av false w0 wz))
    case atStart => exact ⟨i + n, [], .slice none 0 0, rfl, hin, by simp, HR, HT⟩
    case round =>
      obtain ⟨i2, ats, av, rfl, hi2, hal, hR, HT1⟩ := hrel
      cases gk with
      | zero => have := hR.out; simp [tagGo] at this
      | succ kq =>
        have hr := hR.out
        rw [tagGo] at hr
        clear hR HT HR hin
        have hj : skipTo s i2 ≤ s.size := by unfold skipTo; omega
        have KC : ∀ w1, RdAt g s i2 out w1 → Calls Tryz.prog 146 #[.pointer (some ⟨g, 0, none⟩)] w1 fun e w' => e = .returned (.tuple #[]) ∧ RdAt g s (skipTo s i2) out w' ∧ Fr g w1 w' := fun w1 h1 => skip_calls g s i2 out w1 h1 hi2 hs9
        generalize skipTo s i2 = j at *
        have HC1 : ∀ w1, RdAt g s j out w1 → Calls Tryz.prog 147 #[.pointer (some ⟨g, 0, none⟩), .string ⟨#[62]⟩] w1 fun e w' => e = .returned (.bool (hasAt s j [62])) ∧ Drawn0 w1 w' := fun w1 h1 => has_calls g s j out ⟨#[62]⟩ w1 h1 hj
        have HC2 : ∀ w1, RdAt g s j out w1 → Calls Tryz.prog 147 #[.pointer (some ⟨g, 0, none⟩), .string ⟨#[47, 62]⟩] w1 fun e w' => e = .returned (.bool (hasAt s j [47, 62])) ∧ Drawn0 w1 w' := fun w1 h1 => has_calls g s j out ⟨#[47, 62]⟩ w1 h1 hj
        have HC3 : ∀ w1, RdAt g s j out w1 → Calls Tryz.prog 147 #[.pointer (some ⟨g, 0, none⟩), .string ⟨#[47]⟩] w1 fun e w' => e = .returned (.bool (hasAt s j [47])) ∧ Drawn0 w1 w' := fun w1 h1 => has_calls g s j out ⟨#[47]⟩ w1 h1 hj
        have L1 : hasAt s j [62] = true → 1 + j ≤ s.size := fun h => (hasAt_le h).resolve_right (by simp)
        have L2 : hasAt s j [47, 62] = true → 2 + j ≤ s.size := fun h => (hasAt_le h).resolve_right (by simp)
        generalize hasAt s j [62] = b1 at *
        generalize hasAt s j [47, 62] = b2 at *
        generalize hasAt s j [47] = b3 at *
        have HR := Lib.hid hr
        clear hr
        go_wp2_with (go_at_call 146; refine (KC _ HT1.out.box).mono ?_; rintro e w4 ⟨rfl, hb4, hf4⟩)
        have HT4 := Lib.hid (HT1.out.fr hb4 hf4)
        have c0 := HT4.out.box.cell0
        have c1 := HT4.out.box.cell1
        clear HT1 hb4 hf4
        by_cases hjs : j = s.size
        · have hq : ((j : Int) == (s.size : Int)) = true := by rw [beq_iff_eq]; omega
          have hr := HR.out
          rw [if_pos hjs] at hr
          obtain rfl := Option.some.inj hr
          clear hr
          go_quiet (fail)
          go_wp2
          (try rw [Exit.noGoto_ret])
          go_ret
          exact ⟨rfl, fun h => absurd (show (40 : Int) = 0 from h) (by decide), (HT4.out.drewN _).below⟩
        have hq : ((j : Int) == (s.size : Int)) = false := by rw [beq_eq_false_iff_ne]; omega
        have hr := HR.out
        rw [if_neg hjs] at hr
        clear HR
        go_quiet (fail)
        have HT5 := Lib.hid (HT4.out.drewN nq)
        generalize w4.drewN nq = w5 at *
        clear HT4 c0 c1 KC
        have hne := HT5.out.ne
        have hne2 : ¬ g = tb := Ne.symm HT5.out.ne
        cases b1
        case true =>
          rw [if_pos rfl] at hr
          have hj1 := L1 rfl
          have HF := Lib.hid hr
          clear hr L1 L2
          go_wp2_with (go_at_call 147; refine (HC1 _ HT5.out.box).mono ?_; rintro e w6 ⟨rfl, hd6⟩; have HT6 := Lib.hid (HT5.out.later hd6.below); have k1 := HT6.out.box.cell1; have q1 := HT6.out.box.frz 1)
          go_meet
          case rel => exact ⟨rfl, Lib.hid ⟨j + 1, ats, av, false, HF.out, HT6.out.move (j + 1) (z := (j : Int) + 1) (by omega)⟩⟩
        rw [if_neg (by decide)] at hr
        cases b2
        case true =>
          rw [if_pos rfl] at hr
          have hj2 := L2 rfl
          have HF := Lib.hid hr
          clear hr L1 L2
          go_wp2_with (first | (go_at_call 147; refine (HC1 _ HT5.out.box).mono ?_; rintro e w6 ⟨rfl, hd6⟩; have HT6 := Lib.hid (HT5.out.later hd6.below)) | (go_at_call 147; refine (HC2 _ HT6.out.box).mono ?_; rintro e w7 ⟨rfl, hd7⟩; have HT7 := Lib.hid (HT6.out.later hd7.below); have k1 := HT7.out.box.cell1; have q1 := HT7.out.box.frz 1; have q3 := HT7.out.tfrz 3; have k3 : w7.cell? ⟨tb, 3, none⟩ = some (.bool false) := HT7.out.tcell 3))
          go_meet
          case rel => exact ⟨rfl, Lib.hid ⟨j + 2, ats, av, true, HF.out, (HT7.out.move (j + 2) (z := (j : Int) + 2) (by omega)).selfed⟩⟩
        rw [if_neg (by decide)] at hr
        clear L1 L2
        cases b3
        case true =>
          rw [if_pos rfl] at hr
          obtain rfl := Option.some.inj hr
          clear hr
          go_wp2_with (first | (go_at_call 147; refine (HC1 _ HT5.out.box).mono ?_; rintro e w6 ⟨rfl, hd6⟩; have HT6 := Lib.hid (HT5.out.later hd6.below)) | (go_at_call 147; refine (HC2 _ HT6.out.box).mono ?_; rintro e w7 ⟨rfl, hd7⟩; have HT7 := Lib.hid (HT6.out.later hd7.below)) | (go_at_call 147; refine (HC3 _ HT7.out.box).mono ?_; rintro e w8 ⟨rfl, hd8⟩; have HT8 := Lib.hid (HT7.out.later hd8.below)))
          (try rw [Exit.noGoto_ret])
          go_ret
          exact ⟨rfl, fun h => absurd (show (40 : Int) = 0 from h) (by decide), HT8.out.below⟩
        rw [if_neg (by decide)] at hr
        obtain ⟨⟨e1, i3, a⟩, ha, hr⟩ := Option.bind_eq_some_iff.1 hr
        dsimp only at hr
        have AC : ∀ w1, RdT g tb s j acc out kind name ats av false w0 w1 → _ := fun w1 h1 => attr_calls g s j k out (e1, i3, a) w0 w1 h1.box HG.out h1.below h1.g0 hj HS.out ha
        dsimp only at AC
        clear ha
        by_cases he : e1 = 0
        case neg =>
          have hq2 : (e1 != 0) = true := by rw [bne_iff_ne]; exact he
          rw [if_pos he] at hr
          obtain rfl := Option.some.inj hr
          have HE := Lib.hid he
          clear hr he
          go_wp2_with (first | (go_at_call 147; refine (HC1 _ HT5.out.box).mono ?_; rintro e w6 ⟨rfl, hd6⟩; have HT6 := Lib.hid (HT5.out.later hd6.below)) | (go_at_call 147; refine (HC2 _ HT6.out.box).mono ?_; rintro e w7 ⟨rfl, hd7⟩; have HT7 := Lib.hid (HT6.out.later hd7.below)) | (go_at_call 147; refine (HC3 _ HT7.out.box).mono ?_; rintro e w8 ⟨rfl, hd8⟩; have HT8 := Lib.hid (HT7.out.later hd8.below)) | (go_at_call 148; refine (AC _ HT8.out).mono ?_; rintro e w9 ⟨rfl, hb9, hf9⟩; have HT9 := Lib.hid (HT8.out.fr hb9 hf9)))
          (try rw [Exit.noGoto_ret])
          go_ret
          exact ⟨rfl, fun h => absurd h HE.out, (HT9.out.later (below_alloc (Below.refl _ _) _)).below⟩
        have hq2 : (e1 != 0) = false := by rw [bne_eq_false_iff_eq]; exact he
        rw [if_neg (fun h => h he)] at hr
        have HR := Lib.hid hr
        clear hr he
        go_upto_region 17 with (first | (go_at_call 147; refine (HC1 _ HT5.out.box).mono ?_; rintro e w6 ⟨rfl, hd6⟩; have HT6 := Lib.hid (HT5.out.later hd6.below)) | (go_at_call 147; refine (HC2 _ HT6.out.box).mono ?_; rintro e w7 ⟨rfl, hd7⟩; have HT7 := Lib.hid (HT6.out.later hd7.below)) | (go_at_call 147; refine (HC3 _ HT7.out.box).mono ?_; rintro e w8 ⟨rfl, hd8⟩; have HT8 := Lib.hid (HT7.out.later hd8.below)) | (go_at_call 148; refine (AC _ HT8.out).mono ?_; rintro e w9 ⟨rfl, hb9, hf9⟩; have HT9 := Lib.hid (HT8.out.fr hb9 hf9)))
        have HTA := Lib.hid (HT9.out.later (below_alloc (Below.refl _ _) (.cells #[.string a.f0, .string a.f1] 40)))
        have HA := Lib.hid (blk_new w9 (.cells #[.string a.f0, .string a.f1] 40))
        generalize w9.heap.size = ab at *
        generalize w9.alloc (.cells #[.string a.f0, .string a.f1] 40) = w10 at *
        clear HT5 HT6 HT7 HT8 HT9 hd6 hd7 hd8 hb9 hf9 HC1 HC2 HC3 AC hq hq2 hne hne2
        obtain ⟨A, c, rfl⟩ := Kd.R_slice HTA.out.arow
        have c2 : w10.cell? ⟨tb, 2, none⟩ = some (.slice A ats.length c) := HTA.out.tcell 2
        go_wp2
        clear c2
        go_loopw [4, 9, 67] (fun v4 v9 v67 wz => ∃ q : Nat, v4 = .int .i64 0 ∧ v67 = .int .i64 q ∧ q ≤ ats.length ∧ Hid (hasName (ats.take q) a.f0 = false) ∧ Hid (RdT g tb s i3 acc out kind name ats (.slice A ats.length c) false w0 wz) ∧ Hid (wz.heap[ab]? = some (.cells #[.string a.f0, .string a.f1] 40 (0, 0)))) (fun v4 v9 v67 wz => ats.length - (intOf v67).toNat)
        case atStart => exact ⟨0, rfl, rfl, Nat.zero_le _, Lib.hid rfl, HTA, HA⟩
        case round =>
          obtain ⟨q, rfl, rfl, hql, hn, HTq, hAq⟩ := hrel
          clear HTA HA
          have hab : ab < wr.heap.size := blk_lt hAq.out
          have a0 : wr.cell? ⟨ab, 0, none⟩ = some (.string a.f0) := blk_cell hAq.out 0
          have a1 : wr.cell? ⟨ab, 1, none⟩ = some (.string a.f1) := blk_cell hAq.out 1
          by_cases hlt : q < ats.length
          · obtain ⟨ad, rfl, e0, e1⟩ := at_T40 (Kd.R_reads' HTq.out.arow).2.2 (q : Int) (by omega) (by omega)
            simp only [Int.toNat_natCast] at e0 e1
            have htk : ats.take (q + 1) = ats.take q ++ [rd_T40 ats (q : Int)] := by
              rw [List.take_add_one]
              congr 1
              unfold rd_T40
              simp [List.getD_eq_getElem?_getD, hlt]
            have hsub : rd_T40 ats (q : Int) ∈ ats := by
              unfold rd_T40
              simp [List.getD_eq_getElem?_getD, hlt]
            generalize rd_T40 ats (q : Int) = b at e0 e1 htk hsub
            have a2 : (wr.alloc (.cells #[.string b.f0, .string b.f1] 40)).cell? ⟨ab, 0, none⟩ = some (.string a.f0) := blk_cell (blk_alloc hAq.out _) 0
            by_cases he : a.f0.data.toList = b.f0.data.toList
            · have hb : (a.f0.toList == b.f0.toList) = true := by rw [Lib.toList_data, Lib.toList_data, beq_iff_eq]; exact he
              have hr := HR.out
              rw [if_pos (show hasName ats a.f0 = true from List.any_eq_true.2 ⟨b, hsub, by rw [beq_iff_eq]; exact he⟩)] at hr
              obtain rfl := Option.some.inj hr
              clear hr he htk hsub hn
              go_wp2_with fail
              (try rw [Exit.noGoto_ret])
              go_ret
              exact ⟨rfl, fun h => absurd (show (41 : Int) = 0 from h) (by decide), (HTq.out.later (below_alloc (Below.refl _ _) _)).below⟩
            · have hb : (a.f0.toList == b.f0.toList) = false := by rw [Lib.toList_data, Lib.toList_data, beq_eq_false_iff_ne]; exact he
              have hn2 : Hid (hasName (ats.take (q + 1)) a.f0 = false) := Lib.hid (by
                have h1 := hn.out
                unfold hasName at h1 ⊢
                rw [htk, List.any_append, h1, Bool.false_or, List.any_cons, List.any_nil, Bool.or_false, beq_eq_false_iff_ne]
                exact he)
              clear he htk hsub hn
              go_wp2_with fail
              go_roundw
              case rel => exact ⟨q + 1, rfl, by go_num, by omega, hn2, Lib.hid (HTq.out.later (below_alloc (Below.refl _ _) _)), Lib.hid (blk_alloc hAq.out _)⟩
              case measure => simp [intOf]; omega
          · obtain rfl : q = ats.length := by omega
            have hr := HR.out
            have hn2 := hn.out
            rw [List.take_length] at hn2
            rw [if_neg (by rw [hn2]; decide)] at hr
            have c2 : wr.cell? ⟨tb, 2, none⟩ = some (.slice A ats.length c) := HTq.out.tcell 2
            clear hn hn2
            by_cases h16 : ats.length = 16
            · rw [if_pos h16] at hr
              obtain rfl := Option.some.inj hr
              have hq16 : ((ats.length : Int) == 16) = true := by rw [beq_iff_eq]; omega
              clear hr h16
              go_wp2_with fail
              (try rw [Exit.noGoto_ret])
              go_ret
              exact ⟨rfl, fun h => absurd (show (3 : Int) = 0 from h) (by decide), HTq.out.below⟩
            · rw [if_neg h16] at hr
              have hq16 : ((ats.length : Int) == 16) = false := by rw [beq_eq_false_iff_ne]; omega
              split at hr
              case isFalse => cases hr
              rename_i hle
              have HN := Lib.hid hr
              have h15 : ats.length + 1 ≤ 16 := by omega
              clear hr h16
              go_wp2_with (at_builtin; refine Kd.R_append k40 (w0 := wr) tb rfl (.tmp 82) (.tmp 84) 23 40 (.agg #[(.string ⟨#[]⟩), (.string ⟨#[]⟩)]) 32 rfl Tryz.underlying23 info40 rfl (by decide) (by decide) (.slice A ats.length c) ats a [.string a.f0, .string a.f1] (fun _ => True) (fun _ => False) rfl rfl (k40_mkM _ _ _ a) (fun _ hk => hk.elim) (fun _ _ => trivial) HTq.out.arow (Below.refl _ _) (Nat.le_of_lt (blk_lt HTq.out.tk)) (by omega) ?_; intro v1 w11 ho hb11 hg11 hat11; obtain ⟨A1, n1, rfl⟩ := Kd.R_slice ho; have ho2 := Lib.hid ho; have hg12 := Lib.hid hg11; have t1 := Lib.hid (blk_grown HTq.out.tk hg11 (Kd.R_ne HTq.out.arow HTq.out.tk (by decide))); have d2 := blk_cell t1.out 2; have g2 := blk_frozen t1.out 2; rw [List.length_append, List.length_singleton]; clear ho hat11 hg11)
              go_roundg kq
              case measure => omega
              case rel =>
                have hX := HTq.out.grown ho2.out (HTq.out.below.trans (hb11.mono HTq.out.t0)) hg12.out
                rw [List.length_append, List.length_singleton] at hX
                exact ⟨i3, ats ++ [a], _, rfl, hle, by rw [List.length_append, List.length_singleton]; exact h15, HN, Lib.hid hX⟩
  case rest =>
    obtain ⟨rfl, HF⟩ := hcut
    obtain ⟨i2, ats, av, sf, hf, hX⟩ := HF.out
    have HX := Lib.hid hX
    obtain ⟨A, c, rfl⟩ := Kd.R_slice HX.out.arow
    have k3 : wc.cell? ⟨tb, 3, none⟩ = some (.bool sf) := HX.out.tcell 3
    have k2 : wc.cell? ⟨tb, 2, none⟩ = some (.slice A ats.length c) := HX.out.tcell 2
    clear HF hX HR HT
    by_cases herr : kind = 2 ∧ (sf = true ∨ 0 < ats.length)
    · obtain ⟨rfl, h2⟩ := herr
      rw [tagFin, if_pos ⟨rfl, h2⟩] at hf
      obtain rfl := Option.some.inj hf
      clear hf
      cases sf with
      | true =>
        go_wp2_with fail
        (try rw [Exit.noGoto_ret])
        go_ret
        exact ⟨rfl, HX.out.below⟩
      | false =>
        have h3 : (0 : Int) < (ats.length : Int) := by
          rcases h2 with h2 | h2
          · cases h2
          · omega
        go_wp2_with fail
        (try rw [Exit.noGoto_ret])
        go_ret
        exact ⟨rfl, HX.out.below⟩
    rw [tagFin, if_neg herr] at hf
    obtain rfl := Option.some.inj hf
    clear hf
    go_upto_region 26 with fail
    go_cut [98] from 87 to 98 (fun v98 wd => v98 = .bool false ∧ wd = wc)
    case first =>
      rcases hk with rfl | rfl
      · go_wp2_with fail
        go_meet
        case rel => exact ⟨rfl, rfl⟩
      · have hs2 : sf = false := by
          cases sf
          · rfl
          · exact absurd ⟨rfl, .inl rfl⟩ herr
        have hl2 : ¬ (0 : Int) < (ats.length : Int) := fun h => herr ⟨rfl, .inr (by omega)⟩
        have hl3 : ¬ 0 < ats.length := fun h => herr ⟨rfl, .inr h⟩
        subst hs2
        go_wp2_with fail
        go_meet
        case rel => exact ⟨by first | rfl | rw [decide_eq_false hl3], rfl⟩
    case rest =>
      obtain ⟨rfl, rfl⟩ := hcut
      clear k2 k3 herr
      go_wp2_with fail
      have hcd := HX.out.later (Below.refl _ _).drew
      refine start_ (n := 11) (S := fun w' => w'.cell? ⟨g, 2, none⟩ = some out ∧ w'.cell? ⟨tb, 0, none⟩ = some (.int .u8 kind) ∧ w'.cell? ⟨tb, 1, none⟩ = some (.string name) ∧ w'.cell? ⟨tb, 2, none⟩ = some (.slice A ats.length c) ∧ w'.cell? ⟨tb, 3, none⟩ = some (.bool sf) ∧ w'.cell? ⟨tb, 4, none⟩ = some (.string ⟨#[]⟩)) (ds := [10]) #[false, false, false, false, false, false, false, false, false, false, false] (by kernel_rfl) rfl rfl ⟨hcd.box.cell2, hcd.tcell 0, hcd.tcell 1, hcd.tcell 2, hcd.tcell 3, hcd.tcell 4⟩ (fun hHeld => ?_)
      refine pure_ (i := 0) (N := some 99) (v := ?_) (a' := ?_) #[true, false, false, false, false, false, false, false, false, false, false] rfl rfl (by kernel_rfl) (fun _ _ _ h => h) (Or.inl ⟨by rfl, ?_⟩) ?_ ?_
      rotate_left
      · intro w'
        go_simp
        with_reducible rfl
      rotate_left
      · simp only [Act.put, List.setIfInBounds_toArray, List.set_cons_zero, List.set_cons_succ, i64_w, i32_w]
        rfl
      refine pure_ (i := 1) (N := some 100) (v := ?_) (a' := ?_) #[true, true, false, false, false, false, false, false, false, false, false] rfl rfl (by kernel_rfl) (fun _ _ _ h => h) (Or.inl ⟨by rfl, ?_⟩) ?_ ?_
      rotate_left
      · intro w'
        go_simp
        with_reducible rfl
      rotate_left
      · simp only [Act.put, List.setIfInBounds_toArray, List.set_cons_zero, List.set_cons_succ, i64_w, i32_w]
        rfl
      refine pure_ (i := 2) (N := some 101) (v := ?_) (a' := ?_) #[true, true, true, false, false, false, false, false, false, false, false] rfl rfl (by kernel_rfl) (fun _ _ _ h => h) (Or.inl ⟨by rfl, ?_⟩) ?_ ?_
      rotate_left
      · intro w'
        go_simp
        with_reducible rfl
      rotate_left
      · simp only [Act.put, List.setIfInBounds_toArray, List.set_cons_zero, List.set_cons_succ, i64_w, i32_w]
        rfl
      refine pure_ (i := 3) (N := some 102) (v := ?_) (a' := ?_) #[true, true, true, true, false, false, false, false, false, false, false] rfl rfl (by kernel_rfl) (fun _ _ _ h => h) (Or.inl ⟨by rfl, ?_⟩) ?_ ?_
      rotate_left
      · intro w'
        go_simp
        with_reducible rfl
      rotate_left
      · simp only [Act.put, List.setIfInBounds_toArray, List.set_cons_zero, List.set_cons_succ, i64_w, i32_w]
        rfl
      refine take_ (i := 4) (N := some 103) (v := ?_) (a' := ?_) #[true, true, true, true, true, false, false, false, false, false, false] rfl rfl (by kernel_rfl) (fun _ _ _ h => h) (Or.inl ⟨by rfl, ?_⟩) hHeld ?_ ?_
      rotate_left
      · rintro w' ⟨s0, s1, s2, s3, s4, s5⟩
        go_simp
        with_reducible rfl
      rotate_left
      · simp only [Act.put, List.setIfInBounds_toArray, List.set_cons_zero, List.set_cons_succ, i64_w, i32_w]
        rfl
      refine take_ (i := 5) (N := some 104) (v := ?_) (a' := ?_) #[true, true, true, true, true, true, false, false, false, false, false] rfl rfl (by kernel_rfl) (fun _ _ _ h => h) (Or.inl ⟨by rfl, ?_⟩) hHeld ?_ ?_
      rotate_left
      · rintro w' ⟨s0, s1, s2, s3, s4, s5⟩
        go_simp
        with_reducible rfl
      rotate_left
      · simp only [Act.put, List.setIfInBounds_toArray, List.set_cons_zero, List.set_cons_succ, i64_w, i32_w]
        rfl
      refine one_ (i := 6) (N := some 105) #[true, true, true, true, true, true, true, false, false, false, false] rfl rfl (by kernel_rfl) (by decide) (fun K hK => ?_)
      refine value_ (w1 := ?_) (v := ?_) (by rfl) rfl ?_ ?_
      rotate_left 2
      · go_simp
        constructor
        · rfl
        · rfl
      refine hK.out _ _ ⟨(hcd.later (below_alloc (Below.refl _ _) _)).box.cell2, (hcd.later (below_alloc (Below.refl _ _) _)).tcell 0, (hcd.later (below_alloc (Below.refl _ _) _)).tcell 1, (hcd.later (below_alloc (Below.refl _ _) _)).tcell 2, (hcd.later (below_alloc (Below.refl _ _) _)).tcell 3, (hcd.later (below_alloc (Below.refl _ _) _)).tcell 4⟩ (fun hHeld => ?_)
      clear hK K
      refine norm_ (a' := ?_) ?_ ?_
      rotate_left
      · show Act.put _ (some 105) _ = _
        simp only [Act.put, List.setIfInBounds_toArray, List.set_cons_zero, List.set_cons_succ, i64_w, i32_w]
        rfl
      refine one_ (i := 7) (N := some 106) #[true, true, true, true, true, true, true, true, false, false, false] rfl rfl (by kernel_rfl) (by decide) (fun K hK => ?_)
      refine Kd.R_append_step k25 w0.heap.size rfl (.tmp 103) (.tmp 105) 22 25 (.agg #[(.int .u8 0), (.string ⟨#[]⟩), (.slice none 0 0), (.bool false), (.string ⟨#[]⟩)]) 72 rfl Tryz.underlying22 info25 rfl (by decide) (by decide) out acc ⟨kind, name, ats, sf, ⟨#[]⟩⟩ [.int .u8 kind, .string name, .slice A ats.length c, .bool sf, .string ⟨#[]⟩] (fun _ => True) (fun k => tb ≤ k) rfl rfl (k25_mkM _ _ _ ⟨kind, name, ats, sf, ⟨#[]⟩⟩ (Kd.R_lower (Kd.R_mono (Kd.R_bound hcd.arow) (fun k hk => hk.2.1)) hcd.t0)) (fun k hk => ⟨trivial, fun he => by have := hcd.row.1 k he.symm; omega⟩) (fun _ _ => trivial) (Kd.R_mono hcd.row (fun _ _ => trivial)) hcd.below hcd.below.size (by have := HL.out; omega) ?_
      intro v1 w3 ho3 hb3 hg3 hat3
      obtain ⟨A1, q1, rfl⟩ := Kd.R_slice ho3
      rw [List.length_append, List.length_singleton] at ho3
      rw [List.length_append, List.length_singleton]
      have hB3 : RdAt g s _ out w3 := blk_grown hcd.box hg3 (Kd.R_ne hcd.row hcd.box (by decide))
      have hT3 := blk_grown hcd.tk hg3 (Kd.R_away hcd.row (fun k hk => by omega))
      have d3 := hB3.cell2
      have g3 := hB3.frz 2
      refine hK.out _ _ ⟨hB3.cell2, blk_cell hT3 0, blk_cell hT3 1, blk_cell hT3 2, blk_cell hT3 3, blk_cell hT3 4⟩ (fun hHeld => ?_)
      clear hK K
      refine norm_ (a' := ?_) ?_ ?_
      rotate_left
      · show Act.put _ (some 106) _ = _
        simp only [Act.put, List.setIfInBounds_toArray, List.set_cons_zero, List.set_cons_succ, i64_w, i32_w]
        rfl
      refine pure_ (i := 8) (N := some 107) (v := ?_) (a' := ?_) #[true, true, true, true, true, true, true, true, true, false, false] rfl rfl (by kernel_rfl) (fun _ _ _ h => h) (Or.inl ⟨by rfl, ?_⟩) ?_ ?_
      rotate_left
      · intro w'
        go_simp
        with_reducible rfl
      rotate_left
      · simp only [Act.put, List.setIfInBounds_toArray, List.set_cons_zero, List.set_cons_succ, i64_w, i32_w]
        rfl
      refine pure_ (i := 9) (N := some 108) (v := ?_) (a' := ?_) #[true, true, true, true, true, true, true, true, true, true, false] rfl rfl (by kernel_rfl) (fun _ _ _ h => h) (Or.inl ⟨by rfl, ?_⟩) ?_ ?_
      rotate_left
      · intro w'
        go_simp
        with_reducible rfl
      rotate_left
      · simp only [Act.put, List.setIfInBounds_toArray, List.set_cons_zero, List.set_cons_succ, i64_w, i32_w]
        rfl
      refine last_ (i := 10) (N := none) #[true, true, true, true, true, true, true, true, true, true, true] rfl rfl (by kernel_rfl) (by decide) (fun K hK => ?_)
      refine skip_ (w1 := ?_) (by rfl) rfl ?_ ?_
      rotate_left
      · go_simp
        rfl
      refine hK.out _ _ ?_
      clear hK K
      refine done_ (by kernel_rfl) ?_
      go_wp2
      (try rw [Exit.noGoto_ret])
      go_ret
      exact ⟨rfl, fun _ => ⟨_, blk_put hB3 2 _ rfl, Kd.R_set ho3 hB3 rE 2 _, hb3.setCell hcd.g0 _, hcd.g0⟩, hb3.setCell hcd.g0 _⟩
end Go.Proofs.YtpfhgolamlnhiaaGreatDoor
