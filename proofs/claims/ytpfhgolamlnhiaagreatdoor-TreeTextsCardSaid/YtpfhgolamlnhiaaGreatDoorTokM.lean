/- token.reader.mark: the doctype. -/
import Derived.Test.YtpfhgolamlnhiaaGreatDoorTokT
set_option linter.unusedVariables false
set_option linter.unusedSimpArgs false
namespace Go.Proofs.YtpfhgolamlnhiaaGreatDoor
open Go.RowKit Go.Proofs.YtpfhgolamlnhiaaGreatDoorW.PrintWords Go.Proofs.YtpfhgolamlnhiaaGreatDoorW.PrintLast Go.Proofs.YtpfhgolamlnhiaaGreatDoor.XT Go.Proofs.YtpfhgolamlnhiaaGreatDoor.XQ

set_option maxRecDepth 100000 in
theorem trim_calls (s : ByteArray) (w : World) (hs : s.size ≤ 9223372036854775807) :
    Calls Tryz.prog 133 #[.string s, .string ⟨#[9, 10, 12, 32]⟩] w fun e w' => e = .returned (.string ⟨(Lib.trimS s.data.toList [9, 10, 12, 32]).toArray⟩) ∧ Below w.heap.size w w' := by
  refine Any.strings_Trim_ascii Tryz.lays160x Tryz.zeroValue153 (by kernel_rfl) s ⟨#[9, 10, 12, 32]⟩ w hs (by decide) ?_
  intro j b h
  have hb : b ∈ ([9, 10, 12, 32] : List UInt8) := List.mem_of_getElem? h
  have all : ∀ x ∈ ([9, 10, 12, 32] : List UInt8), x.toNat < 128 := by decide
  exact all b hb
set_option maxHeartbeats 8000000 in
set_option maxRecDepth 100000 in
theorem mark_calls (g : Nat) (s : ByteArray) (i : Nat) (acc : List TokD) (out : Value) (r : Int × Nat × TokD) (w0 w : World) (h : Rdr g s i acc out w0 w) (hi : i ≤ s.size) (hs : s.size ≤ 65536) (hl : acc.length < 65536)
    (hr : markK s i = some r) :
    Calls Tryz.prog 109 #[.pointer (some ⟨g, 0, none⟩)] w fun e w' => e = .returned (.int .i64 r.1) ∧ (r.1 = 0 → ∃ out', Rdr g s r.2.1 (acc ++ [r.2.2]) out' w0 w') ∧ Below w0.heap.size w0 w' := by
  have H := Lib.hid h
  have HL := Lib.hid hl
  have HS := Lib.hid hs
  have hs9 : s.size ≤ 4611686018427387904 := by omega
  unfold markK at hr
  dsimp only at hr
  have hx : (s.extract i s.size).size = s.size - i := by rw [ByteArray.size_extract]; omega
  have RC := fun (w1 : World) (h1 : RdAt g s i out w1) => rest_calls g s i out w1 h1 hi
  generalize s.extract i s.size = R at *
  have HX := Lib.hid hx
  clear h hl hx
  by_cases h9 : R.size < 9
  · rw [if_pos h9] at hr
    obtain rfl := Option.some.inj hr
    have h9' : (R.size : Int) < 9 := by omega
    clear hr
    go_enter Tryz.func109, Tryz.ntmps109
    go_wp2_with (go_at_call 102; refine (RC _ H.out.box).mono ?_; rintro e w1 ⟨rfl, hd1⟩)
    go_ret
    exact ⟨rfl, fun h => absurd (show (43 : Int) = 0 from h) (by decide), (H.out.later hd1.below).below⟩
  rw [if_neg h9] at hr
  have h9' : ¬ (R.size : Int) < 9 := by omega
  have h9l : (9 : Int) ≤ (R.size : Int) := by omega
  have SC := fun (w1 : World) => small_calls (R.extract 0 9) w1 (by rw [ByteArray.size_extract]; have := HX.out; omega)
  generalize smallS (R.extract 0 9) = sm at *
  by_cases hd : sm.data.toList ≠ [60, 33, 100, 111, 99, 116, 121, 112, 101]
  · rw [if_pos hd] at hr
    obtain rfl := Option.some.inj hr
    have hq : (sm.toList == ([60, 33, 100, 111, 99, 116, 121, 112, 101] : List UInt8)) = false := by rw [Lib.toList_data, beq_eq_false_iff_ne]; exact hd
    clear hr hd
    go_enter Tryz.func109, Tryz.ntmps109
    go_wp2_with (first | (go_at_call 102; refine (RC _ H.out.box).mono ?_; rintro e w1 ⟨rfl, hd1⟩) | (go_at_call 131; refine (SC _).mono ?_; rintro e w2 ⟨rfl, hb2⟩))
    go_ret
    exact ⟨rfl, fun h => absurd (show (43 : Int) = 0 from h) (by decide), ((H.out.later hd1.below).later hb2).below⟩
  rw [if_neg hd] at hr
  have hq : (sm.toList == ([60, 33, 100, 111, 99, 116, 121, 112, 101] : List UInt8)) = true := by rw [Lib.toList_data, beq_iff_eq]; exact Classical.not_not.1 hd
  have hi9 : i + 9 ≤ s.size := by have := HX.out; omega
  have hx2 : (s.extract (i + 9) s.size).size = s.size - (i + 9) := by rw [ByteArray.size_extract]; omega
  have hn2 := uptoGo_le [62] (s.extract (i + 9) s.size) ((s.extract (i + 9) s.size).size + 1) 0 (by omega)
  change _ ∧ uptoN [62] (s.extract (i + 9) s.size) ≤ _ at hn2
  have UC : ∀ w1, RdAt g s (i + 9) out w1 → _ := fun (w1 : World) (h1 : RdAt g s (i + 9) out w1) => upto_calls g s (i + 9) out ⟨#[62]⟩ w1 h1 hi9 hs9
  rw [show (⟨#[62]⟩ : ByteArray).data.toList = [62] from rfl] at UC
  have hvs : ((s.extract (i + 9) s.size).extract 0 (uptoN [62] (s.extract (i + 9) s.size))).size ≤ 9223372036854775807 := by rw [ByteArray.size_extract]; omega
  generalize uptoN [62] (s.extract (i + 9) s.size) = n at *
  generalize (s.extract (i + 9) s.size).extract 0 n = v at *
  have TC := fun (w1 : World) => trim_calls v w1 hvs
  generalize hT : (⟨(Lib.trimS v.data.toList [9, 10, 12, 32]).toArray⟩ : ByteArray) = T at *
  have hib : i ≤ 65536 := by omega
  have hn3 : i + 9 + n ≤ s.size := by omega
  clear hd hs h9 hvs hT hx2 HX
  go_enter Tryz.func109, Tryz.ntmps109
  go_upto_region 4 with (first | (go_at_call 102; refine (RC _ H.out.box).mono ?_; rintro e w1 ⟨rfl, hd1⟩; have H1 := Lib.hid (H.out.later hd1.below)) | (go_at_call 131; refine (SC _).mono ?_; rintro e w2 ⟨rfl, hb2⟩; have H2 := Lib.hid (H1.out.later hb2)))
  clear hq RC SC h9' h9l hd1 hb2 H H1
  have k1 := H2.out.box.cell1
  have q1 := H2.out.box.frz 1
  go_upto_region 6 with (go_at_call 132; refine (UC _ (H2.out.box.at_ (i + 9) (z := (i : Int) + 9) (by omega))).mono ?_; rintro e w3 ⟨rfl, hb3, hf3⟩; have H3 := Lib.hid ((H2.out.move (i + 9) (z := (i : Int) + 9) (by omega)).fr hb3 hf3); have c0 := H3.out.box.cell0; have c1 := H3.out.box.cell1)
  clear k1 q1 H2 hb3 hf3 UC
  by_cases he : i + 9 + n = s.size
  · rw [if_pos he] at hr
    obtain rfl := Option.some.inj hr
    have hq : (((i + 9 + n : Nat) : Int) == (s.size : Int)) = true := by rw [beq_iff_eq]; omega
    clear hr he
    go_quiet (fail)
    go_wp2
    go_ret
    exact ⟨rfl, (H3.out.drewN _).below⟩
  rw [if_neg he] at hr
  obtain rfl := Option.some.inj hr
  have hq : (((i + 9 + n : Nat) : Int) == (s.size : Int)) = false := by rw [beq_eq_false_iff_ne]; omega
  have hlt : i + 9 + n < s.size := by omega
  clear hr he
  go_quiet (fail)
  have H4 := Lib.hid (H3.out.drewN nq)
  generalize w3.drewN nq = w4 at *
  clear c0 c1 H3 hq
  have k1 := H4.out.box.cell1
  have q1 := H4.out.box.frz 1
  have hnb : n ≤ 65536 := by have := HS.out; omega
  go_upto_region 9 with fail
  have HR9 := Lib.hid (H4.out.move (i + 9 + n + 1) (z := (i : Int) + 9 + (n : Int) + 1) (by omega))
  generalize w4.setCell ⟨g, 1, none⟩ (.int .i64 ((i : Int) + 9 + (n : Int) + 1)) = w5 at *
  clear H4 k1 q1
  have hcd := HR9.out.later (Below.refl _ w5).drew
  refine start_ (n := 13) (S := fun w' => w'.cell? ⟨g, 2, none⟩ = some out) (ds := [12]) #[false, false, false, false, false, false, false, false, false, false, false, false, false] (by kernel_rfl) rfl rfl (hcd.box.cell2) (fun hHeld => ?_)
  refine pure_ (i := 0) (N := some 42) (v := ?_) (a' := ?_) #[true, false, false, false, false, false, false, false, false, false, false, false, false] rfl rfl (by kernel_rfl) (fun _ _ _ h => h) (Or.inl ⟨by rfl, ?_⟩) ?_ ?_
  rotate_left
  · intro w'
    go_simp
    with_reducible rfl
  rotate_left
  · simp only [Act.put, List.setIfInBounds_toArray, List.set_cons_zero, List.set_cons_succ, i64_w, i32_w]
    rfl
  refine pure_ (i := 1) (N := some 43) (v := ?_) (a' := ?_) #[true, true, false, false, false, false, false, false, false, false, false, false, false] rfl rfl (by kernel_rfl) (fun _ _ _ h => h) (Or.inl ⟨by rfl, ?_⟩) ?_ ?_
  rotate_left
  · intro w'
    go_simp
    with_reducible rfl
  rotate_left
  · simp only [Act.put, List.setIfInBounds_toArray, List.set_cons_zero, List.set_cons_succ, i64_w, i32_w]
    rfl
  refine pure_ (i := 2) (N := some 44) (v := ?_) (a' := ?_) #[true, true, true, false, false, false, false, false, false, false, false, false, false] rfl rfl (by kernel_rfl) (fun _ _ _ h => h) (Or.inl ⟨by rfl, ?_⟩) ?_ ?_
  rotate_left
  · intro w'
    go_simp
    with_reducible rfl
  rotate_left
  · simp only [Act.put, List.setIfInBounds_toArray, List.set_cons_zero, List.set_cons_succ, i64_w, i32_w]
    rfl
  refine pure_ (i := 3) (N := some 45) (v := ?_) (a' := ?_) #[true, true, true, true, false, false, false, false, false, false, false, false, false] rfl rfl (by kernel_rfl) (fun _ _ _ h => h) (Or.inl ⟨by rfl, ?_⟩) ?_ ?_
  rotate_left
  · intro w'
    go_simp
    with_reducible rfl
  rotate_left
  · simp only [Act.put, List.setIfInBounds_toArray, List.set_cons_zero, List.set_cons_succ, i64_w, i32_w]
    rfl
  refine pure_ (i := 5) (N := some 47) (v := ?_) (a' := ?_) #[true, true, true, true, false, true, false, false, false, false, false, false, false] rfl rfl (by kernel_rfl) (fun _ _ _ h => h) (Or.inl ⟨by rfl, ?_⟩) ?_ ?_
  rotate_left
  · intro w'
    go_simp
    with_reducible rfl
  rotate_left
  · simp only [Act.put, List.setIfInBounds_toArray, List.set_cons_zero, List.set_cons_succ, i64_w, i32_w]
    rfl
  refine take_ (i := 4) (N := some 46) (v := ?_) (a' := ?_) #[true, true, true, true, true, true, false, false, false, false, false, false, false] rfl rfl (by kernel_rfl) (fun _ _ _ h => h) (Or.inl ⟨by rfl, ?_⟩) hHeld ?_ ?_
  rotate_left
  · intro w' s0
    go_simp
    with_reducible rfl
  rotate_left
  · simp only [Act.put, List.setIfInBounds_toArray, List.set_cons_zero, List.set_cons_succ, i64_w, i32_w]
    rfl
  refine one_ (i := 6) (N := some 48) #[true, true, true, true, true, true, true, false, false, false, false, false, false] rfl rfl (by kernel_rfl) (by decide) (fun K hK => ?_)
  refine goes_ Tryz.func133 (by kernel_rfl) rfl #[.string v, .string ⟨#[9, 10, 12, 32]⟩] (by rfl) rfl rfl (by simp only [List.map_toArray, List.map_cons, List.map_nil]; rfl) ?_
  with_reducible refine (TC _).mono ?_
  rintro e w2 ⟨rfl, hb2⟩
  refine ⟨_, rfl, ?_⟩
  have hR2 := hcd.later hb2
  refine hK.out _ _ (hR2.box.cell2) (fun hHeld => ?_)
  clear hK K
  refine norm_ (a' := ?_) ?_ ?_
  rotate_left
  · show Act.put _ (some 48) _ = _
    simp only [Act.put, List.setIfInBounds_toArray, List.set_cons_zero, List.set_cons_succ, i64_w, i32_w]
    rfl
  refine pure_ (i := 7) (N := some 49) (v := ?_) (a' := ?_) #[true, true, true, true, true, true, true, true, false, false, false, false, false] rfl rfl (by kernel_rfl) (fun _ _ _ h => h) (Or.inl ⟨by rfl, ?_⟩) ?_ ?_
  rotate_left
  · intro w'
    go_simp
    with_reducible rfl
  rotate_left
  · simp only [Act.put, List.setIfInBounds_toArray, List.set_cons_zero, List.set_cons_succ, i64_w, i32_w]
    rfl
  refine one_ (i := 8) (N := some 50) #[true, true, true, true, true, true, true, true, true, false, false, false, false] rfl rfl (by kernel_rfl) (by decide) (fun K hK => ?_)
  refine value_ (w1 := ?_) (v := ?_) (by rfl) rfl ?_ ?_
  rotate_left 2
  · go_simp
    constructor
    · rfl
    · rfl
  refine hK.out _ _ ((hR2.later (below_alloc (Below.refl _ _) _)).box.cell2) (fun hHeld => ?_)
  clear hK K
  refine norm_ (a' := ?_) ?_ ?_
  rotate_left
  · show Act.put _ (some 50) _ = _
    simp only [Act.put, List.setIfInBounds_toArray, List.set_cons_zero, List.set_cons_succ, i64_w, i32_w]
    rfl
  refine one_ (i := 9) (N := some 51) #[true, true, true, true, true, true, true, true, true, true, false, false, false] rfl rfl (by kernel_rfl) (by decide) (fun K hK => ?_)
  refine Kd.R_append_step k25 w0.heap.size rfl (.tmp 46) (.tmp 50) 22 25 (.agg #[(.int .u8 0), (.string ⟨#[]⟩), (.slice none 0 0), (.bool false), (.string ⟨#[]⟩)]) 72 rfl Tryz.underlying22 info25 rfl (by decide) (by decide) out acc ⟨5, ⟨#[]⟩, [], false, T⟩ [.int .u8 5, .string ⟨#[]⟩, .slice none 0 0, .bool false, .string T] (fun _ => True) (fun _ => False) rfl rfl (k25_mkM _ _ _ ⟨5, ⟨#[]⟩, [], false, T⟩ (Kd.R_nil _ _ _ _ _)) (fun _ hk => hk.elim) (fun _ _ => trivial) hR2.row hR2.below hR2.below.size (by have := HL.out; omega) ?_
  intro v1 w3 ho3 hb3 hg3 hat3
  obtain ⟨A1, q1, rfl⟩ := Kd.R_slice ho3
  rw [List.length_append, List.length_singleton] at ho3
  rw [List.length_append, List.length_singleton]
  have hB3 : RdAt g s _ out w3 := blk_grown hR2.box hg3 (Kd.R_ne hR2.row hR2.box (by decide))
  have d3 := hB3.cell2
  have g3 := hB3.frz 2
  refine hK.out _ _ (hB3.cell2) (fun hHeld => ?_)
  clear hK K
  refine norm_ (a' := ?_) ?_ ?_
  rotate_left
  · show Act.put _ (some 51) _ = _
    simp only [Act.put, List.setIfInBounds_toArray, List.set_cons_zero, List.set_cons_succ, i64_w, i32_w]
    rfl
  refine pure_ (i := 10) (N := some 52) (v := ?_) (a' := ?_) #[true, true, true, true, true, true, true, true, true, true, true, false, false] rfl rfl (by kernel_rfl) (fun _ _ _ h => h) (Or.inl ⟨by rfl, ?_⟩) ?_ ?_
  rotate_left
  · intro w'
    go_simp
    with_reducible rfl
  rotate_left
  · simp only [Act.put, List.setIfInBounds_toArray, List.set_cons_zero, List.set_cons_succ, i64_w, i32_w]
    rfl
  refine pure_ (i := 11) (N := some 53) (v := ?_) (a' := ?_) #[true, true, true, true, true, true, true, true, true, true, true, true, false] rfl rfl (by kernel_rfl) (fun _ _ _ h => h) (Or.inl ⟨by rfl, ?_⟩) ?_ ?_
  rotate_left
  · intro w'
    go_simp
    with_reducible rfl
  rotate_left
  · simp only [Act.put, List.setIfInBounds_toArray, List.set_cons_zero, List.set_cons_succ, i64_w, i32_w]
    rfl
  refine last_ (i := 12) (N := none) #[true, true, true, true, true, true, true, true, true, true, true, true, true] rfl rfl (by kernel_rfl) (by decide) (fun K hK => ?_)
  refine skip_ (w1 := ?_) (by rfl) rfl ?_ ?_
  rotate_left
  · go_simp
    rfl
  refine hK.out _ _ ?_
  clear hK K
  refine done_ (by kernel_rfl) ?_
  go_wp2
  go_ret
  exact ⟨rfl, ⟨_, blk_put hB3 2 _ rfl, Kd.R_set ho3 hB3 rE 2 _, hb3.setCell HR9.out.g0 _, HR9.out.g0⟩, hb3.setCell HR9.out.g0 _⟩
end Go.Proofs.YtpfhgolamlnhiaaGreatDoor
