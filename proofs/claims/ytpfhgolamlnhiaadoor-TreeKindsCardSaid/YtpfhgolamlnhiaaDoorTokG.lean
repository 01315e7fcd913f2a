/- token.reader.tag (without attributes), start, end. -/
import Derived.Test.YtpfhgolamlnhiaaDoorTokT
set_option linter.unusedVariables false
set_option linter.unusedSimpArgs false
namespace Go.Proofs.YtpfhgolamlnhiaaDoor
open Go.RowKit Go.Proofs.YtpfhgolamlnhiaaDoorW.PrintWords Go.Proofs.YtpfhgolamlnhiaaDoorW.PrintLast Go.Proofs.YtpfhgolamlnhiaaDoor.XT Go.Proofs.YtpfhgolamlnhiaaDoor.XQ

theorem hasAt_le {s : ByteArray} {i : Nat} {p : List UInt8} (h : hasAt s i p = true) : p.length + i ≤ s.size ∨ p = [] := by
  unfold hasAt Lib.hasPrefix at h
  have h2 := List.IsPrefix.length_le (List.isPrefixOf_iff_prefix.1 h)
  rw [List.length_drop, Sv.size_list] at h2
  rcases p with _ | ⟨a, p⟩
  · exact .inr rfl
  · left
    rw [List.length_cons] at h2 ⊢
    omega
/-- A reader in the midst of a tag: the token lies in block tb. -/
structure RdT (g tb : Nat) (s : ByteArray) (i : Nat) (acc : List TokD) (out : Value) (kind : Int) (name : ByteArray) (sf : Bool) (w0 w : World) : Prop where
  box : RdAt g s i out w
  tk : w.heap[tb]? = some (.cells #[.int .u8 kind, .string name, .slice none 0 0, .bool sf, .string ⟨#[]⟩] 95 (0, 0))
  row : Kd.R k95 95 w w0.heap.size (fun k => k ≠ tb) out acc
  below : Below w0.heap.size w0 w
  g0 : w0.heap.size ≤ g
  t0 : w0.heap.size ≤ tb
  ne : tb ≠ g
section
variable {g tb : Nat} {s : ByteArray} {i j : Nat} {acc : List TokD} {out : Value} {kind : Int} {name : ByteArray} {sf : Bool} {w0 w w' : World}
theorem Rdr.tok (h : Rdr g s i acc out w0 w) (kind : Int) (name : ByteArray) :
    RdT g w.heap.size s i acc out kind name false w0 (w.alloc (.cells #[.int .u8 kind, .string name, .slice none 0 0, .bool false, .string ⟨#[]⟩] 95)) := by
  have hlt : g < w.heap.size := blk_lt h.box
  refine ⟨blk_alloc h.box _, blk_new _ _, ?_, below_alloc h.below _, h.g0, h.below.size, by omega⟩
  exact Kd.R_mono (Kd.R_below (Kd.R_bound h.row) (below_alloc (Below.refl _ _) _)) (fun k hk => by have := hk.2.2.1; omega)
theorem RdT.fr (h : RdT g tb s i acc out kind name sf w0 w) (hb : RdAt g s j out w') (hf : Fr g w w') : RdT g tb s j acc out kind name sf w0 w' :=
  ⟨hb, (hf.block tb (blk_lt h.tk) h.ne).trans h.tk, Kd.R_mono (Kd.R_keep (Kd.R_types h.row h.box rE) hf.keep (fun _ hk => hk.2)) (fun _ hk => hk.1), hf.below h.below h.g0 h.below.size, h.g0, h.t0, h.ne⟩
theorem RdT.later (h : RdT g tb s i acc out kind name sf w0 w) (hb : Below w.heap.size w w') : RdT g tb s i acc out kind name sf w0 w' := h.fr (h.box.below hb) (Fr.of_below hb)
theorem RdT.drewN (h : RdT g tb s i acc out kind name sf w0 w) (n : Nat) : RdT g tb s i acc out kind name sf w0 (w.drewN n) := h.later (pw_below_drewN (Below.refl _ _) n)
theorem RdT.move (h : RdT g tb s i acc out kind name sf w0 w) (j : Nat) {z : Int} (hz : z = j) : RdT g tb s j acc out kind name sf w0 (w.setCell ⟨g, 1, none⟩ (.int .i64 z)) := h.fr (h.box.at_ j hz) ((Fr.refl g w).set 1 _)
theorem RdT.selfed (h : RdT g tb s i acc out kind name false w0 w) : RdT g tb s i acc out kind name true w0 (w.setCell ⟨tb, 3, none⟩ (.bool true)) :=
  ⟨blk_far h.box (Ne.symm h.ne) _, blk_put h.tk 3 _ rfl, Kd.R_far (p := ⟨tb, 3, none⟩) h.row (fun _ hk => hk) _, h.below.setCell h.t0 _, h.g0, h.t0, h.ne⟩
theorem RdT.tcell (h : RdT g tb s i acc out kind name sf w0 w) (j : Nat) : w.cell? ⟨tb, j, none⟩ = (#[.int .u8 kind, .string name, .slice none 0 0, .bool sf, .string ⟨#[]⟩] : Array Value)[j]? := blk_cell h.tk j
theorem RdT.tfrz (h : RdT g tb s i acc out kind name sf w0 w) (j : Nat) : w.frozen? ⟨tb, j, none⟩ = false := blk_frozen h.tk j
end
set_option maxHeartbeats 4000000 in
set_option maxRecDepth 100000 in
theorem tag_calls (g : Nat) (s : ByteArray) (i k : Nat) (kind : Int) (acc : List TokD) (out : Value) (r : Int × Nat × TokD) (w0 w : World) (h : Rdr g s i acc out w0 w) (hi : i ≤ s.size) (hs : s.size ≤ 65536) (hl : acc.length < 65536) (hk : kind = 1 ∨ kind = 2)
    (hr : tagK k s kind i = some r) :
    Calls Tryd.prog 88 #[.pointer (some ⟨g, 0, none⟩), .int .u8 kind] w fun e w' => e = .returned (.int .i64 r.1) ∧ (r.1 = 0 → ∃ out', Rdr g s r.2.1 (acc ++ [r.2.2]) out' w0 w') ∧ Below w0.heap.size w0 w' := by
  have H := Lib.hid h
  have HS := Lib.hid hs
  have HL := Lib.hid hl
  have hs9 : s.size ≤ 4611686018427387904 := by omega
  unfold tagK at hr
  dsimp only at hr
  rw [show tagStops = (⟨#[9, 10, 12, 32, 47, 62]⟩ : ByteArray) from rfl] at hr
  obtain ⟨m, hm, hr⟩ := Option.bind_eq_some_iff.1 hr
  have hxs : (s.extract i s.size).size = s.size - i := by rw [ByteArray.size_extract]; omega
  have hn := uptoGo_le (⟨#[9, 10, 12, 32, 47, 62]⟩ : ByteArray).data.toList (s.extract i s.size) ((s.extract i s.size).size + 1) 0 (by omega)
  change _ ∧ uptoN (⟨#[9, 10, 12, 32, 47, 62]⟩ : ByteArray).data.toList (s.extract i s.size) ≤ _ at hn
  have UC := fun (w1 : World) (h1 : RdAt g s i out w1) => upto_calls g s i out ⟨#[9, 10, 12, 32, 47, 62]⟩ w1 h1 hi hs9
  have hns : ((s.extract i s.size).extract 0 (uptoN (⟨#[9, 10, 12, 32, 47, 62]⟩ : ByteArray).data.toList (s.extract i s.size))).size ≤ 65536 := by rw [ByteArray.size_extract]; omega
  generalize uptoN (⟨#[9, 10, 12, 32, 47, 62]⟩ : ByteArray).data.toList (s.extract i s.size) = n at *
  generalize (s.extract i s.size).extract 0 n = nm at *
  generalize hname : smallS nm = name at *
  have SC := fun (w1 : World) => small_calls nm w1 hns
  rw [hname] at SC
  have MC := fun (w1 : World) => token_made.calls k name ⟨#[]⟩ m w1 hm
  clear hm h hs hl
  go_enter Tryd.func88, Tryd.ntmps88
  go_wp2
  go_step3
  go_wp2_with (first | (go_at_call 93; refine (UC _ H.out.box).mono ?_; rintro e w1 ⟨rfl, hb1, hf1⟩) | (go_at_call 92; refine (SC _).mono ?_; rintro e w2 ⟨rfl, hb2⟩))
  refine (MC _).mono ?_
  rintro e w3 ⟨rfl, hd3⟩
  dsimp only
  have HT := Lib.hid (((H.out.fr hb1 hf1).later hb2).tok kind name |>.later hd3.below)
  clear hb1 hf1 hb2 hd3 UC SC MC H
  generalize w2.heap.size = tb at *
  cases m
  · rw [if_pos rfl] at hr
    obtain rfl := Option.some.inj hr
    go_wp2_with fail
    (try rw [Exit.noGoto_ret])
    go_ret
    exact ⟨rfl, HT.out.below⟩
  · rw [if_neg (by decide)] at hr
    have hj : skipTo s (i + n) ≤ s.size := by unfold skipTo; omega
    have KC : ∀ w1, RdAt g s (i + n) out w1 → Calls Tryd.prog 103 #[.pointer (some ⟨g, 0, none⟩)] w1 fun e w' => e = .returned (.tuple #[]) ∧ RdAt g s (skipTo s (i + n)) out w' ∧ Fr g w1 w' := fun w1 h1 => skip_calls g s (i + n) out w1 h1 (by omega) hs9
    generalize skipTo s (i + n) = j at *
    have HC1 : ∀ w1, RdAt g s j out w1 → Calls Tryd.prog 104 #[.pointer (some ⟨g, 0, none⟩), .string ⟨#[62]⟩] w1 fun e w' => e = .returned (.bool (hasAt s j [62])) ∧ Drawn0 w1 w' := fun w1 h1 => has_calls g s j out ⟨#[62]⟩ w1 h1 hj
    have HC2 : ∀ w1, RdAt g s j out w1 → Calls Tryd.prog 104 #[.pointer (some ⟨g, 0, none⟩), .string ⟨#[47, 62]⟩] w1 fun e w' => e = .returned (.bool (hasAt s j [47, 62])) ∧ Drawn0 w1 w' := fun w1 h1 => has_calls g s j out ⟨#[47, 62]⟩ w1 h1 hj
    have HC3 : ∀ w1, RdAt g s j out w1 → Calls Tryd.prog 104 #[.pointer (some ⟨g, 0, none⟩), .string ⟨#[47]⟩] w1 fun e w' => e = .returned (.bool (hasAt s j [47])) ∧ Drawn0 w1 w' := fun w1 h1 => has_calls g s j out ⟨#[47]⟩ w1 h1 hj
    have L1 : hasAt s j [62] = true → 1 + j ≤ s.size := fun h => (hasAt_le h).resolve_right (by simp)
    have L2 : hasAt s j [47, 62] = true → 2 + j ≤ s.size := fun h => (hasAt_le h).resolve_right (by simp)
    generalize hasAt s j [62] = b1 at *
    generalize hasAt s j [47, 62] = b2 at *
    generalize hasAt s j [47] = b3 at *
    have HR := Lib.hid hr
    clear hr
    go_wp2
    go_step3
    go_wp2
    go_loopw [4, 6, 7, 9] (fun v4 v6 v7 v9 wr => v4 = .int .i64 0 ∧ Hid (RdT g tb s (i + n) acc out kind name false w0 wr)) (fun v4 v6 v7 v9 wr => 0)
    case atStart => exact ⟨rfl, HT⟩
    case round =>
      obtain ⟨rfl, HT1⟩ := hrel
      go_wp2_with (go_at_call 103; refine (KC _ HT1.out.box).mono ?_; rintro e w4 ⟨rfl, hb4, hf4⟩)
      have HT4 := HT1.out.fr hb4 hf4
      have c0 := HT4.box.cell0
      have c1 := HT4.box.cell1
      by_cases hjs : j = s.size
      · have hq : ((j : Int) == (s.size : Int)) = true := by rw [beq_iff_eq]; omega
        have hr := HR.out
        rw [if_pos hjs] at hr
        obtain rfl := Option.some.inj hr
        clear hr
        go_quiet (fail)
        go_wp2
        (try rw [Exit.noGoto_ret])
        go_ret
        exact ⟨rfl, fun h => absurd (show (40 : Int) = 0 from h) (by decide), (HT4.drewN _).below⟩
      · have hq : ((j : Int) == (s.size : Int)) = false := by rw [beq_eq_false_iff_ne]; omega
        have hr := HR.out
        rw [if_neg hjs] at hr
        go_quiet (fail)
        have HT5 := HT4.drewN nq
        generalize w4.drewN nq = w5 at *
        clear HT1 HT4 hb4 hf4 c0 c1
        have hne := HT5.ne
        have hne2 : ¬ g = tb := Ne.symm HT5.ne
        cases b1
        · rw [if_neg (by decide)] at hr
          cases b2
          · rw [if_neg (by decide)] at hr
            cases b3
            · rw [if_neg (by decide)] at hr
              cases hr
            · rw [if_pos rfl] at hr
              obtain rfl := Option.some.inj hr
              clear hr
              go_wp2_with (first | (go_at_call 104; refine (HC1 _ HT5.box).mono ?_; rintro e w6 ⟨rfl, hd6⟩; have HT6 := HT5.later hd6.below) | (go_at_call 104; refine (HC2 _ HT6.box).mono ?_; rintro e w7 ⟨rfl, hd7⟩; have HT7 := HT6.later hd7.below) | (go_at_call 104; refine (HC3 _ HT7.box).mono ?_; rintro e w8 ⟨rfl, hd8⟩; have HT8 := HT7.later hd8.below))
              (try rw [Exit.noGoto_ret])
              go_ret
              exact ⟨rfl, fun h => absurd (show (40 : Int) = 0 from h) (by decide), HT8.below⟩
          · rw [if_pos rfl] at hr
            have hj2 := L2 rfl
            clear L1 L2 KC
            rcases hk with rfl | rfl
            · rw [tagFin, if_neg (by decide)] at hr
              obtain rfl := Option.some.inj hr
              clear hr
              go_wp2_with (first | (go_at_call 104; refine (HC1 _ HT5.box).mono ?_; rintro e w6 ⟨rfl, hd6⟩; have HT6 := HT5.later hd6.below) | (go_at_call 104; refine (HC2 _ HT6.box).mono ?_; rintro e w7 ⟨rfl, hd7⟩; have HT7 := HT6.later hd7.below; have k1 := HT7.box.cell1; have q1 := HT7.box.frz 1; have q3 := HT7.tfrz 3; have k3 : w7.cell? ⟨tb, 3, none⟩ = some (.bool false) := HT7.tcell 3; have k2 : w7.cell? ⟨tb, 2, none⟩ = some (.slice none 0 0) := HT7.tcell 2))
              have HX := (HT7.move (j + 2) (z := (j : Int) + 2) (by omega)).selfed
              generalize (w7.setCell ⟨g, 1, none⟩ (.int .i64 ((j : Int) + 2))).setCell ⟨tb, 3, none⟩ (.bool true) = wX at *
              have hcd := HX.later (Below.refl _ _).drew
              refine start_ (n := 11) (S := fun w' => w'.cell? ⟨g, 2, none⟩ = some out ∧ w'.cell? ⟨tb, 0, none⟩ = some (.int .u8 1) ∧ w'.cell? ⟨tb, 1, none⟩ = some (.string name) ∧ w'.cell? ⟨tb, 2, none⟩ = some (.slice none 0 0) ∧ w'.cell? ⟨tb, 3, none⟩ = some (.bool true) ∧ w'.cell? ⟨tb, 4, none⟩ = some (.string ⟨#[]⟩)) (ds := [10]) #[false, false, false, false, false, false, false, false, false, false, false] (by kernel_rfl) rfl rfl ⟨hcd.box.cell2, hcd.tcell 0, hcd.tcell 1, hcd.tcell 2, hcd.tcell 3, hcd.tcell 4⟩ (fun hHeld => ?_)
              refine pure_ (i := 0) (N := some 99) (v := ?_) (a' := ?_) #[true, false, false, false, false, false, false, false, false, false, false] rfl rfl (by kernel_rfl) (fun _ _ _ h => h) (Or.inl ⟨by rfl, ?_⟩) ?_ ?_
              rotate_left
              · intro w'
                go_simp
                with_reducible rfl
              rotate_left
              · simp only [Act.put, List.setIfInBounds_toArray, List.set_cons_zero, List.set_cons_succ, i64_w, i32_w]
                rfl
              refine pure_ (i := 1) (N := some 100) (v := ?_) (a' := ?_) #[true, true, false, false, false, false, false, false, false, false, false] rfl rfl (by kernel_rfl) (fun _ _ _ h => h) (Or.inl ⟨by rfl, ?_⟩) ?_ ?_
              rotate_left
              · intro w'
                go_simp
                with_reducible rfl
              rotate_left
              · simp only [Act.put, List.setIfInBounds_toArray, List.set_cons_zero, List.set_cons_succ, i64_w, i32_w]
                rfl
              refine pure_ (i := 2) (N := some 101) (v := ?_) (a' := ?_) #[true, true, true, false, false, false, false, false, false, false, false] rfl rfl (by kernel_rfl) (fun _ _ _ h => h) (Or.inl ⟨by rfl, ?_⟩) ?_ ?_
              rotate_left
              · intro w'
                go_simp
                with_reducible rfl
              rotate_left
              · simp only [Act.put, List.setIfInBounds_toArray, List.set_cons_zero, List.set_cons_succ, i64_w, i32_w]
                rfl
              refine pure_ (i := 3) (N := some 102) (v := ?_) (a' := ?_) #[true, true, true, true, false, false, false, false, false, false, false] rfl rfl (by kernel_rfl) (fun _ _ _ h => h) (Or.inl ⟨by rfl, ?_⟩) ?_ ?_
              rotate_left
              · intro w'
                go_simp
                with_reducible rfl
              rotate_left
              · simp only [Act.put, List.setIfInBounds_toArray, List.set_cons_zero, List.set_cons_succ, i64_w, i32_w]
                rfl
              refine take_ (i := 4) (N := some 103) (v := ?_) (a' := ?_) #[true, true, true, true, true, false, false, false, false, false, false] rfl rfl (by kernel_rfl) (fun _ _ _ h => h) (Or.inl ⟨by rfl, ?_⟩) hHeld ?_ ?_
              rotate_left
              · rintro w' ⟨s0, s1, s2, s3, s4, s5⟩
                go_simp
                with_reducible rfl
              rotate_left
              · simp only [Act.put, List.setIfInBounds_toArray, List.set_cons_zero, List.set_cons_succ, i64_w, i32_w]
                rfl
              refine take_ (i := 5) (N := some 104) (v := ?_) (a' := ?_) #[true, true, true, true, true, true, false, false, false, false, false] rfl rfl (by kernel_rfl) (fun _ _ _ h => h) (Or.inl ⟨by rfl, ?_⟩) hHeld ?_ ?_
              rotate_left
              · rintro w' ⟨s0, s1, s2, s3, s4, s5⟩
                go_simp
                with_reducible rfl
              rotate_left
              · simp only [Act.put, List.setIfInBounds_toArray, List.set_cons_zero, List.set_cons_succ, i64_w, i32_w]
                rfl
              refine one_ (i := 6) (N := some 105) #[true, true, true, true, true, true, true, false, false, false, false] rfl rfl (by kernel_rfl) (by decide) (fun K hK => ?_)
              refine value_ (w1 := ?_) (v := ?_) (by rfl) rfl ?_ ?_
              rotate_left 2
              · go_simp
                constructor
                · rfl
                · rfl
              refine hK.out _ _ ⟨(hcd.later (below_alloc (Below.refl _ _) _)).box.cell2, (hcd.later (below_alloc (Below.refl _ _) _)).tcell 0, (hcd.later (below_alloc (Below.refl _ _) _)).tcell 1, (hcd.later (below_alloc (Below.refl _ _) _)).tcell 2, (hcd.later (below_alloc (Below.refl _ _) _)).tcell 3, (hcd.later (below_alloc (Below.refl _ _) _)).tcell 4⟩ (fun hHeld => ?_)
              clear hK K
              refine norm_ (a' := ?_) ?_ ?_
              rotate_left
              · show Act.put _ (some 105) _ = _
                simp only [Act.put, List.setIfInBounds_toArray, List.set_cons_zero, List.set_cons_succ, i64_w, i32_w]
                rfl
              refine one_ (i := 7) (N := some 106) #[true, true, true, true, true, true, true, true, false, false, false] rfl rfl (by kernel_rfl) (by decide) (fun K hK => ?_)
              refine Kd.R_append_step k95 w0.heap.size rfl (.tmp 103) (.tmp 105) 64 95 (.agg #[(.int .u8 0), (.string ⟨#[]⟩), (.slice none 0 0), (.bool false), (.string ⟨#[]⟩)]) 72 rfl Tryd.underlying64 info95 rfl (by decide) (by decide) out acc ⟨1, name, [], true, ⟨#[]⟩⟩ [.int .u8 1, .string name, .slice none 0 0, .bool true, .string ⟨#[]⟩] (fun k => k ≠ tb) (fun _ => False) rfl rfl (k95_mkM _ _ _ ⟨1, name, [], true, ⟨#[]⟩⟩ (Kd.R_nil _ _ _ _ _)) (fun _ hk => hk.elim) (fun k hk => by have := blk_lt hcd.tk; omega) hcd.row hcd.below hcd.below.size (by have := HL.out; omega) ?_
              intro v1 w3 ho3 hb3 hg3 hat3
              obtain ⟨A1, q1, rfl⟩ := Kd.R_slice ho3
              rw [List.length_append, List.length_singleton] at ho3
              rw [List.length_append, List.length_singleton]
              have hB3 : RdAt g s _ out w3 := blk_grown hcd.box hg3 (Kd.R_ne hcd.row hcd.box (by decide))
              have hT3 := blk_grown hcd.tk hg3 (Kd.R_away hcd.row (fun _ hk => hk))
              have d3 := hB3.cell2
              have g3 := hB3.frz 2
              refine hK.out _ _ ⟨hB3.cell2, blk_cell hT3 0, blk_cell hT3 1, blk_cell hT3 2, blk_cell hT3 3, blk_cell hT3 4⟩ (fun hHeld => ?_)
              clear hK K
              refine norm_ (a' := ?_) ?_ ?_
              rotate_left
              · show Act.put _ (some 106) _ = _
                simp only [Act.put, List.setIfInBounds_toArray, List.set_cons_zero, List.set_cons_succ, i64_w, i32_w]
                rfl
              refine pure_ (i := 8) (N := some 107) (v := ?_) (a' := ?_) #[true, true, true, true, true, true, true, true, true, false, false] rfl rfl (by kernel_rfl) (fun _ _ _ h => h) (Or.inl ⟨by rfl, ?_⟩) ?_ ?_
              rotate_left
              · intro w'
                go_simp
                with_reducible rfl
              rotate_left
              · simp only [Act.put, List.setIfInBounds_toArray, List.set_cons_zero, List.set_cons_succ, i64_w, i32_w]
                rfl
              refine pure_ (i := 9) (N := some 108) (v := ?_) (a' := ?_) #[true, true, true, true, true, true, true, true, true, true, false] rfl rfl (by kernel_rfl) (fun _ _ _ h => h) (Or.inl ⟨by rfl, ?_⟩) ?_ ?_
              rotate_left
              · intro w'
                go_simp
                with_reducible rfl
              rotate_left
              · simp only [Act.put, List.setIfInBounds_toArray, List.set_cons_zero, List.set_cons_succ, i64_w, i32_w]
                rfl
              refine last_ (i := 10) (N := none) #[true, true, true, true, true, true, true, true, true, true, true] rfl rfl (by kernel_rfl) (by decide) (fun K hK => ?_)
              refine skip_ (w1 := ?_) (by rfl) rfl ?_ ?_
              rotate_left
              · go_simp
                rfl
              refine hK.out _ _ ?_
              clear hK K
              refine done_ (by kernel_rfl) ?_
              go_wp2
              (try rw [Exit.noGoto_ret])
              go_ret
              exact ⟨rfl, fun _ => ⟨_, blk_put hB3 2 _ rfl, Kd.R_mono (Kd.R_set ho3 hB3 rE 2 _) (fun _ _ => trivial), hb3.setCell hcd.g0 _, hcd.g0⟩, hb3.setCell hcd.g0 _⟩
            · rw [tagFin, if_pos (by decide)] at hr
              obtain rfl := Option.some.inj hr
              clear hr
              go_wp2_with (first | (go_at_call 104; refine (HC1 _ HT5.box).mono ?_; rintro e w6 ⟨rfl, hd6⟩; have HT6 := HT5.later hd6.below) | (go_at_call 104; refine (HC2 _ HT6.box).mono ?_; rintro e w7 ⟨rfl, hd7⟩; have HT7 := HT6.later hd7.below; have k1 := HT7.box.cell1; have q1 := HT7.box.frz 1; have q3 := HT7.tfrz 3; have k3 : w7.cell? ⟨tb, 3, none⟩ = some (.bool false) := HT7.tcell 3; have k2 : w7.cell? ⟨tb, 2, none⟩ = some (.slice none 0 0) := HT7.tcell 2))
              (try rw [Exit.noGoto_ret])
              go_ret
              exact ⟨rfl, fun h => absurd (show (40 : Int) = 0 from h) (by decide), (HT7.move (j + 2) (z := (j : Int) + 2) (by omega)).selfed.below⟩
        · rw [if_pos rfl] at hr
          have hj1 := L1 rfl
          clear L1 L2 KC
          rcases hk with rfl | rfl
          · rw [tagFin, if_neg (by decide)] at hr
            obtain rfl := Option.some.inj hr
            clear hr
            go_wp2_with (go_at_call 104; refine (HC1 _ HT5.box).mono ?_; rintro e w6 ⟨rfl, hd6⟩; have HT6 := HT5.later hd6.below; have k1 := HT6.box.cell1; have q1 := HT6.box.frz 1)
            have HX := HT6.move (j + 1) (z := (j : Int) + 1) (by omega)
            generalize w6.setCell ⟨g, 1, none⟩ (.int .i64 ((j : Int) + 1)) = wX at *
            have hcd := HX.later (Below.refl _ _).drew
            refine start_ (n := 11) (S := fun w' => w'.cell? ⟨g, 2, none⟩ = some out ∧ w'.cell? ⟨tb, 0, none⟩ = some (.int .u8 1) ∧ w'.cell? ⟨tb, 1, none⟩ = some (.string name) ∧ w'.cell? ⟨tb, 2, none⟩ = some (.slice none 0 0) ∧ w'.cell? ⟨tb, 3, none⟩ = some (.bool false) ∧ w'.cell? ⟨tb, 4, none⟩ = some (.string ⟨#[]⟩)) (ds := [10]) #[false, false, false, false, false, false, false, false, false, false, false] (by kernel_rfl) rfl rfl ⟨hcd.box.cell2, hcd.tcell 0, hcd.tcell 1, hcd.tcell 2, hcd.tcell 3, hcd.tcell 4⟩ (fun hHeld => ?_)
            refine pure_ (i := 0) (N := some 99) (v := ?_) (a' := ?_) #[true, false, false, false, false, false, false, false, false, false, false] rfl rfl (by kernel_rfl) (fun _ _ _ h => h) (Or.inl ⟨by rfl, ?_⟩) ?_ ?_
            rotate_left
            · intro w'
              go_simp
              with_reducible rfl
            rotate_left
            · simp only [Act.put, List.setIfInBounds_toArray, List.set_cons_zero, List.set_cons_succ, i64_w, i32_w]
              rfl
            refine pure_ (i := 1) (N := some 100) (v := ?_) (a' := ?_) #[true, true, false, false, false, false, false, false, false, false, false] rfl rfl (by kernel_rfl) (fun _ _ _ h => h) (Or.inl ⟨by rfl, ?_⟩) ?_ ?_
            rotate_left
            · intro w'
              go_simp
              with_reducible rfl
            rotate_left
            · simp only [Act.put, List.setIfInBounds_toArray, List.set_cons_zero, List.set_cons_succ, i64_w, i32_w]
              rfl
            refine pure_ (i := 2) (N := some 101) (v := ?_) (a' := ?_) #[true, true, true, false, false, false, false, false, false, false, false] rfl rfl (by kernel_rfl) (fun _ _ _ h => h) (Or.inl ⟨by rfl, ?_⟩) ?_ ?_
            rotate_left
            · intro w'
              go_simp
              with_reducible rfl
            rotate_left
            · simp only [Act.put, List.setIfInBounds_toArray, List.set_cons_zero, List.set_cons_succ, i64_w, i32_w]
              rfl
            refine pure_ (i := 3) (N := some 102) (v := ?_) (a' := ?_) #[true, true, true, true, false, false, false, false, false, false, false] rfl rfl (by kernel_rfl) (fun _ _ _ h => h) (Or.inl ⟨by rfl, ?_⟩) ?_ ?_
            rotate_left
            · intro w'
              go_simp
              with_reducible rfl
            rotate_left
            · simp only [Act.put, List.setIfInBounds_toArray, List.set_cons_zero, List.set_cons_succ, i64_w, i32_w]
              rfl
            refine take_ (i := 4) (N := some 103) (v := ?_) (a' := ?_) #[true, true, true, true, true, false, false, false, false, false, false] rfl rfl (by kernel_rfl) (fun _ _ _ h => h) (Or.inl ⟨by rfl, ?_⟩) hHeld ?_ ?_
            rotate_left
            · rintro w' ⟨s0, s1, s2, s3, s4, s5⟩
              go_simp
              with_reducible rfl
            rotate_left
            · simp only [Act.put, List.setIfInBounds_toArray, List.set_cons_zero, List.set_cons_succ, i64_w, i32_w]
              rfl
            refine take_ (i := 5) (N := some 104) (v := ?_) (a' := ?_) #[true, true, true, true, true, true, false, false, false, false, false] rfl rfl (by kernel_rfl) (fun _ _ _ h => h) (Or.inl ⟨by rfl, ?_⟩) hHeld ?_ ?_
            rotate_left
            · rintro w' ⟨s0, s1, s2, s3, s4, s5⟩
              go_simp
              with_reducible rfl
            rotate_left
            · simp only [Act.put, List.setIfInBounds_toArray, List.set_cons_zero, List.set_cons_succ, i64_w, i32_w]
              rfl
            refine one_ (i := 6) (N := some 105) #[true, true, true, true, true, true, true, false, false, false, false] rfl rfl (by kernel_rfl) (by decide) (fun K hK => ?_)
            refine value_ (w1 := ?_) (v := ?_) (by rfl) rfl ?_ ?_
            rotate_left 2
            · go_simp
              constructor
              · rfl
              · rfl
            refine hK.out _ _ ⟨(hcd.later (below_alloc (Below.refl _ _) _)).box.cell2, (hcd.later (below_alloc (Below.refl _ _) _)).tcell 0, (hcd.later (below_alloc (Below.refl _ _) _)).tcell 1, (hcd.later (below_alloc (Below.refl _ _) _)).tcell 2, (hcd.later (below_alloc (Below.refl _ _) _)).tcell 3, (hcd.later (below_alloc (Below.refl _ _) _)).tcell 4⟩ (fun hHeld => ?_)
            clear hK K
            refine norm_ (a' := ?_) ?_ ?_
            rotate_left
            · show Act.put _ (some 105) _ = _
              simp only [Act.put, List.setIfInBounds_toArray, List.set_cons_zero, List.set_cons_succ, i64_w, i32_w]
              rfl
            refine one_ (i := 7) (N := some 106) #[true, true, true, true, true, true, true, true, false, false, false] rfl rfl (by kernel_rfl) (by decide) (fun K hK => ?_)
            refine Kd.R_append_step k95 w0.heap.size rfl (.tmp 103) (.tmp 105) 64 95 (.agg #[(.int .u8 0), (.string ⟨#[]⟩), (.slice none 0 0), (.bool false), (.string ⟨#[]⟩)]) 72 rfl Tryd.underlying64 info95 rfl (by decide) (by decide) out acc ⟨1, name, [], false, ⟨#[]⟩⟩ [.int .u8 1, .string name, .slice none 0 0, .bool false, .string ⟨#[]⟩] (fun k => k ≠ tb) (fun _ => False) rfl rfl (k95_mkM _ _ _ ⟨1, name, [], false, ⟨#[]⟩⟩ (Kd.R_nil _ _ _ _ _)) (fun _ hk => hk.elim) (fun k hk => by have := blk_lt hcd.tk; omega) hcd.row hcd.below hcd.below.size (by have := HL.out; omega) ?_
            intro v1 w3 ho3 hb3 hg3 hat3
            obtain ⟨A1, q1, rfl⟩ := Kd.R_slice ho3
            rw [List.length_append, List.length_singleton] at ho3
            rw [List.length_append, List.length_singleton]
            have hB3 : RdAt g s _ out w3 := blk_grown hcd.box hg3 (Kd.R_ne hcd.row hcd.box (by decide))
            have hT3 := blk_grown hcd.tk hg3 (Kd.R_away hcd.row (fun _ hk => hk))
            have d3 := hB3.cell2
            have g3 := hB3.frz 2
            refine hK.out _ _ ⟨hB3.cell2, blk_cell hT3 0, blk_cell hT3 1, blk_cell hT3 2, blk_cell hT3 3, blk_cell hT3 4⟩ (fun hHeld => ?_)
            clear hK K
            refine norm_ (a' := ?_) ?_ ?_
            rotate_left
            · show Act.put _ (some 106) _ = _
              simp only [Act.put, List.setIfInBounds_toArray, List.set_cons_zero, List.set_cons_succ, i64_w, i32_w]
              rfl
            refine pure_ (i := 8) (N := some 107) (v := ?_) (a' := ?_) #[true, true, true, true, true, true, true, true, true, false, false] rfl rfl (by kernel_rfl) (fun _ _ _ h => h) (Or.inl ⟨by rfl, ?_⟩) ?_ ?_
            rotate_left
            · intro w'
              go_simp
              with_reducible rfl
            rotate_left
            · simp only [Act.put, List.setIfInBounds_toArray, List.set_cons_zero, List.set_cons_succ, i64_w, i32_w]
              rfl
            refine pure_ (i := 9) (N := some 108) (v := ?_) (a' := ?_) #[true, true, true, true, true, true, true, true, true, true, false] rfl rfl (by kernel_rfl) (fun _ _ _ h => h) (Or.inl ⟨by rfl, ?_⟩) ?_ ?_
            rotate_left
            · intro w'
              go_simp
              with_reducible rfl
            rotate_left
            · simp only [Act.put, List.setIfInBounds_toArray, List.set_cons_zero, List.set_cons_succ, i64_w, i32_w]
              rfl
            refine last_ (i := 10) (N := none) #[true, true, true, true, true, true, true, true, true, true, true] rfl rfl (by kernel_rfl) (by decide) (fun K hK => ?_)
            refine skip_ (w1 := ?_) (by rfl) rfl ?_ ?_
            rotate_left
            · go_simp
              rfl
            refine hK.out _ _ ?_
            clear hK K
            refine done_ (by kernel_rfl) ?_
            go_wp2
            (try rw [Exit.noGoto_ret])
            go_ret
            exact ⟨rfl, fun _ => ⟨_, blk_put hB3 2 _ rfl, Kd.R_mono (Kd.R_set ho3 hB3 rE 2 _) (fun _ _ => trivial), hb3.setCell hcd.g0 _, hcd.g0⟩, hb3.setCell hcd.g0 _⟩
          · rw [tagFin, if_neg (by decide)] at hr
            obtain rfl := Option.some.inj hr
            clear hr
            go_wp2_with (go_at_call 104; refine (HC1 _ HT5.box).mono ?_; rintro e w6 ⟨rfl, hd6⟩; have HT6 := HT5.later hd6.below; have k1 := HT6.box.cell1; have q1 := HT6.box.frz 1; have k2 : w6.cell? ⟨tb, 2, none⟩ = some (.slice none 0 0) := HT6.tcell 2; have k3 : w6.cell? ⟨tb, 3, none⟩ = some (.bool false) := HT6.tcell 3)
            have HX := HT6.move (j + 1) (z := (j : Int) + 1) (by omega)
            generalize w6.setCell ⟨g, 1, none⟩ (.int .i64 ((j : Int) + 1)) = wX at *
            have hcd := HX.later (Below.refl _ _).drew
            refine start_ (n := 11) (S := fun w' => w'.cell? ⟨g, 2, none⟩ = some out ∧ w'.cell? ⟨tb, 0, none⟩ = some (.int .u8 2) ∧ w'.cell? ⟨tb, 1, none⟩ = some (.string name) ∧ w'.cell? ⟨tb, 2, none⟩ = some (.slice none 0 0) ∧ w'.cell? ⟨tb, 3, none⟩ = some (.bool false) ∧ w'.cell? ⟨tb, 4, none⟩ = some (.string ⟨#[]⟩)) (ds := [10]) #[false, false, false, false, false, false, false, false, false, false, false] (by kernel_rfl) rfl rfl ⟨hcd.box.cell2, hcd.tcell 0, hcd.tcell 1, hcd.tcell 2, hcd.tcell 3, hcd.tcell 4⟩ (fun hHeld => ?_)
            refine pure_ (i := 0) (N := some 99) (v := ?_) (a' := ?_) #[true, false, false, false, false, false, false, false, false, false, false] rfl rfl (by kernel_rfl) (fun _ _ _ h => h) (Or.inl ⟨by rfl, ?_⟩) ?_ ?_
            rotate_left
            · intro w'
              go_simp
              with_reducible rfl
            rotate_left
            · simp only [Act.put, List.setIfInBounds_toArray, List.set_cons_zero, List.set_cons_succ, i64_w, i32_w]
              rfl
            refine pure_ (i := 1) (N := some 100) (v := ?_) (a' := ?_) #[true, true, false, false, false, false, false, false, false, false, false] rfl rfl (by kernel_rfl) (fun _ _ _ h => h) (Or.inl ⟨by rfl, ?_⟩) ?_ ?_
            rotate_left
            · intro w'
              go_simp
              with_reducible rfl
            rotate_left
            · simp only [Act.put, List.setIfInBounds_toArray, List.set_cons_zero, List.set_cons_succ, i64_w, i32_w]
              rfl
            refine pure_ (i := 2) (N := some 101) (v := ?_) (a' := ?_) #[true, true, true, false, false, false, false, false, false, false, false] rfl rfl (by kernel_rfl) (fun _ _ _ h => h) (Or.inl ⟨by rfl, ?_⟩) ?_ ?_
            rotate_left
            · intro w'
              go_simp
              with_reducible rfl
            rotate_left
            · simp only [Act.put, List.setIfInBounds_toArray, List.set_cons_zero, List.set_cons_succ, i64_w, i32_w]
              rfl
            refine pure_ (i := 3) (N := some 102) (v := ?_) (a' := ?_) #[true, true, true, true, false, false, false, false, false, false, false] rfl rfl (by kernel_rfl) (fun _ _ _ h => h) (Or.inl ⟨by rfl, ?_⟩) ?_ ?_
            rotate_left
            · intro w'
              go_simp
              with_reducible rfl
            rotate_left
            · simp only [Act.put, List.setIfInBounds_toArray, List.set_cons_zero, List.set_cons_succ, i64_w, i32_w]
              rfl
            refine take_ (i := 4) (N := some 103) (v := ?_) (a' := ?_) #[true, true, true, true, true, false, false, false, false, false, false] rfl rfl (by kernel_rfl) (fun _ _ _ h => h) (Or.inl ⟨by rfl, ?_⟩) hHeld ?_ ?_
            rotate_left
            · rintro w' ⟨s0, s1, s2, s3, s4, s5⟩
              go_simp
              with_reducible rfl
            rotate_left
            · simp only [Act.put, List.setIfInBounds_toArray, List.set_cons_zero, List.set_cons_succ, i64_w, i32_w]
              rfl
            refine take_ (i := 5) (N := some 104) (v := ?_) (a' := ?_) #[true, true, true, true, true, true, false, false, false, false, false] rfl rfl (by kernel_rfl) (fun _ _ _ h => h) (Or.inl ⟨by rfl, ?_⟩) hHeld ?_ ?_
            rotate_left
            · rintro w' ⟨s0, s1, s2, s3, s4, s5⟩
              go_simp
              with_reducible rfl
            rotate_left
            · simp only [Act.put, List.setIfInBounds_toArray, List.set_cons_zero, List.set_cons_succ, i64_w, i32_w]
              rfl
            refine one_ (i := 6) (N := some 105) #[true, true, true, true, true, true, true, false, false, false, false] rfl rfl (by kernel_rfl) (by decide) (fun K hK => ?_)
            refine value_ (w1 := ?_) (v := ?_) (by rfl) rfl ?_ ?_
            rotate_left 2
            · go_simp
              constructor
              · rfl
              · rfl
            refine hK.out _ _ ⟨(hcd.later (below_alloc (Below.refl _ _) _)).box.cell2, (hcd.later (below_alloc (Below.refl _ _) _)).tcell 0, (hcd.later (below_alloc (Below.refl _ _) _)).tcell 1, (hcd.later (below_alloc (Below.refl _ _) _)).tcell 2, (hcd.later (below_alloc (Below.refl _ _) _)).tcell 3, (hcd.later (below_alloc (Below.refl _ _) _)).tcell 4⟩ (fun hHeld => ?_)
            clear hK K
            refine norm_ (a' := ?_) ?_ ?_
            rotate_left
            · show Act.put _ (some 105) _ = _
              simp only [Act.put, List.setIfInBounds_toArray, List.set_cons_zero, List.set_cons_succ, i64_w, i32_w]
              rfl
            refine one_ (i := 7) (N := some 106) #[true, true, true, true, true, true, true, true, false, false, false] rfl rfl (by kernel_rfl) (by decide) (fun K hK => ?_)
            refine Kd.R_append_step k95 w0.heap.size rfl (.tmp 103) (.tmp 105) 64 95 (.agg #[(.int .u8 0), (.string ⟨#[]⟩), (.slice none 0 0), (.bool false), (.string ⟨#[]⟩)]) 72 rfl Tryd.underlying64 info95 rfl (by decide) (by decide) out acc ⟨2, name, [], false, ⟨#[]⟩⟩ [.int .u8 2, .string name, .slice none 0 0, .bool false, .string ⟨#[]⟩] (fun k => k ≠ tb) (fun _ => False) rfl rfl (k95_mkM _ _ _ ⟨2, name, [], false, ⟨#[]⟩⟩ (Kd.R_nil _ _ _ _ _)) (fun _ hk => hk.elim) (fun k hk => by have := blk_lt hcd.tk; omega) hcd.row hcd.below hcd.below.size (by have := HL.out; omega) ?_
            intro v1 w3 ho3 hb3 hg3 hat3
            obtain ⟨A1, q1, rfl⟩ := Kd.R_slice ho3
            rw [List.length_append, List.length_singleton] at ho3
            rw [List.length_append, List.length_singleton]
            have hB3 : RdAt g s _ out w3 := blk_grown hcd.box hg3 (Kd.R_ne hcd.row hcd.box (by decide))
            have hT3 := blk_grown hcd.tk hg3 (Kd.R_away hcd.row (fun _ hk => hk))
            have d3 := hB3.cell2
            have g3 := hB3.frz 2
            refine hK.out _ _ ⟨hB3.cell2, blk_cell hT3 0, blk_cell hT3 1, blk_cell hT3 2, blk_cell hT3 3, blk_cell hT3 4⟩ (fun hHeld => ?_)
            clear hK K
            refine norm_ (a' := ?_) ?_ ?_
            rotate_left
            · show Act.put _ (some 106) _ = _
              simp only [Act.put, List.setIfInBounds_toArray, List.set_cons_zero, List.set_cons_succ, i64_w, i32_w]
              rfl
            refine pure_ (i := 8) (N := some 107) (v := ?_) (a' := ?_) #[true, true, true, true, true, true, true, true, true, false, false] rfl rfl (by kernel_rfl) (fun _ _ _ h => h) (Or.inl ⟨by rfl, ?_⟩) ?_ ?_
            rotate_left
            · intro w'
              go_simp
              with_reducible rfl
            rotate_left
            · simp only [Act.put, List.setIfInBounds_toArray, List.set_cons_zero, List.set_cons_succ, i64_w, i32_w]
              rfl
            refine pure_ (i := 9) (N := some 108) (v := ?_) (a' := ?_) #[true, true, true, true, true, true, true, true, true, true, false] rfl rfl (by kernel_rfl) (fun _ _ _ h => h) (Or.inl ⟨by rfl, ?_⟩) ?_ ?_
            rotate_left
            · intro w'
              go_simp
              with_reducible rfl
            rotate_left
            · simp only [Act.put, List.setIfInBounds_toArray, List.set_cons_zero, List.set_cons_succ, i64_w, i32_w]
              rfl
            refine last_ (i := 10) (N := none) #[true, true, true, true, true, true, true, true, true, true, true] rfl rfl (by kernel_rfl) (by decide) (fun K hK => ?_)
            refine skip_ (w1 := ?_) (by rfl) rfl ?_ ?_
            rotate_left
            · go_simp
              rfl
            refine hK.out _ _ ?_
            clear hK K
            refine done_ (by kernel_rfl) ?_
            go_wp2
            (try rw [Exit.noGoto_ret])
            go_ret
            exact ⟨rfl, fun _ => ⟨_, blk_put hB3 2 _ rfl, Kd.R_mono (Kd.R_set ho3 hB3 rE 2 _) (fun _ _ => trivial), hb3.setCell hcd.g0 _, hcd.g0⟩, hb3.setCell hcd.g0 _⟩
end Go.Proofs.YtpfhgolamlnhiaaDoor
