/- token.reader.start, end. -/
import Derived.Test.YtpfhgolamlnhiaaGreatDoorTokG
import Derived.Test.YtpfhgolamlnhiaaGreatDoorTokC
import Derived.Test.YtpfhgolamlnhiaaGreatDoorTokM
set_option linter.unusedVariables false
set_option linter.unusedSimpArgs false
namespace Go.Proofs.YtpfhgolamlnhiaaGreatDoor
open Go.RowKit Go.Proofs.YtpfhgolamlnhiaaGreatDoorW.PrintWords Go.Proofs.YtpfhgolamlnhiaaGreatDoorW.PrintLast Go.Proofs.YtpfhgolamlnhiaaGreatDoor.XT Go.Proofs.YtpfhgolamlnhiaaGreatDoor.XQ

set_option maxHeartbeats 4000000 in
set_option maxRecDepth 100000 in
theorem start_calls (g : Nat) (s : ByteArray) (i k : Nat) (acc : List TokD) (out : Value) (r : Int × Nat × TokD) (w0 w : World) (h : Rdr g s i acc out w0 w) (hG : G2 w0) (hi : i + 1 ≤ s.size) (hs : s.size ≤ 65536) (hl : acc.length < 65536)
    (hr : tagK k s 1 (i + 1) = some r) :
    Calls Tryz.prog 105 #[.pointer (some ⟨g, 0, none⟩)] w fun e w' => e = .returned (.int .i64 r.1) ∧ (r.1 = 0 → ∃ out', Rdr g s r.2.1 (acc ++ [r.2.2]) out' w0 w') ∧ Below w0.heap.size w0 w' := by
  have c1 := h.box.cell1
  have f1 := h.box.frz 1
  have hs9 : s.size ≤ 4611686018427387904 := by omega
  have TC := fun (w1 : World) (h1 : Rdr g s (i + 1) acc out w0 w1) => tag_calls g s (i + 1) k 1 acc out r w0 w1 h1 hG hi hs hl (.inl rfl) hr
  have H := Lib.hid h
  clear h hr hs hl hG
  go_enter Tryz.func105, Tryz.ntmps105
  go_wp2_with (go_at_call 126; refine (TC _ (H.out.move (i + 1) (by omega))).mono ?_; rintro e w2 ⟨rfl, h2, h3⟩)
  go_ret
  exact ⟨rfl, h2, h3⟩
set_option maxHeartbeats 4000000 in
set_option maxRecDepth 100000 in
theorem end_calls (g : Nat) (s : ByteArray) (i k : Nat) (acc : List TokD) (out : Value) (r : Int × Nat × TokD) (w0 w : World) (h : Rdr g s i acc out w0 w) (hG : G2 w0) (hi : i + 2 ≤ s.size) (hs : s.size ≤ 65536) (hl : acc.length < 65536)
    (hr : endK k s i = some r) :
    Calls Tryz.prog 106 #[.pointer (some ⟨g, 0, none⟩)] w fun e w' => e = .returned (.int .i64 r.1) ∧ (r.1 = 0 → ∃ out', Rdr g s r.2.1 (acc ++ [r.2.2]) out' w0 w') ∧ Below w0.heap.size w0 w' := by
  have c1 := h.box.cell1
  have f1 := h.box.frz 1
  have hs9 : s.size ≤ 4611686018427387904 := by omega
  have H := Lib.hid h
  have HS := Lib.hid hs
  have HL := Lib.hid hl
  have HG := Lib.hid hG
  clear h hs hl hG
  unfold endK at hr
  have HM := H.out.move (i + 2) (z := (i : Int) + 2) (by omega)
  go_enter Tryz.func106, Tryz.ntmps106
  go_wp2_with fail
  generalize w.setCell ⟨g, 1, none⟩ (.int .i64 ((i : Int) + 2)) = w1 at *
  clear c1 f1
  have c0 := HM.box.cell0
  have c1 : w1.cell? ⟨g, 1, none⟩ = some (.int .i64 ((i : Int) + 2)) := by rw [HM.box.cell1]; congr 2
  have e1 : ((i : Int) + 2).toNat = i + 2 := by omega
  have p1 : (0 : Int) ≤ (i : Int) + 2 := by omega
  by_cases he : i + 2 = s.size
  · have hq : ((i : Int) + 2 == (s.size : Int)) = true := by rw [beq_iff_eq]; omega
    rw [if_pos he] at hr
    obtain rfl := Option.some.inj hr
    clear hr
    go_quiet (fail)
    go_wp2
    go_ret
    exact ⟨rfl, (HM.drewN _).below⟩
  · have hq : ((i : Int) + 2 == (s.size : Int)) = false := by rw [beq_eq_false_iff_ne]; omega
    have hlt : i + 2 < s.size := by omega
    have hlt' : (i : Int) + 2 < (s.size : Int) := by omega
    rw [if_neg he, at_get s (i + 2) hlt] at hr
    have LC := fun (w : World) => token_letter.calls ((s[i + 2].toNat : Nat) : Int) (letB s[i + 2].toNat) w (letB_eq _)
    generalize letB s[i + 2].toNat = lb at *
    have TC := fun (w1 : World) (h1 : Rdr g s (i + 2) acc out w0 w1) (hr : tagK k s 2 (i + 2) = some r) => tag_calls g s (i + 2) k 2 acc out r w0 w1 h1 HG.out hi HS.out HL.out (.inr rfl) hr
    refine start_ (n := 23) (S := fun w' => w'.cell? ⟨g, 0, none⟩ = some (.string s) ∧ w'.cell? ⟨g, 1, none⟩ = some (.int .i64 ((i : Int) + 2))) (ds := []) #[false, false, false, false, false, false, false, false, false, false, false, false, false, false, false, false, false, false, false, false, false, false, false] (by kernel_rfl) rfl rfl ⟨c0, c1⟩ (fun hHeld => ?_)
    refine pure_ (i := 0) (N := some 10) (v := ?_) (a' := ?_) #[true, false, false, false, false, false, false, false, false, false, false, false, false, false, false, false, false, false, false, false, false, false, false] rfl rfl (by kernel_rfl) (fun _ _ _ h => h) (Or.inl ⟨by rfl, ?_⟩) ?_ ?_
    rotate_left
    · intro w'
      go_simp
      with_reducible rfl
    rotate_left
    · simp only [Act.put, List.setIfInBounds_toArray, List.set_cons_zero, List.set_cons_succ, i64_w, i32_w]
      rfl
    refine pure_ (i := 1) (N := some 11) (v := ?_) (a' := ?_) #[true, true, false, false, false, false, false, false, false, false, false, false, false, false, false, false, false, false, false, false, false, false, false] rfl rfl (by kernel_rfl) (fun _ _ _ h => h) (Or.inl ⟨by rfl, ?_⟩) ?_ ?_
    rotate_left
    · intro w'
      go_simp
      with_reducible rfl
    rotate_left
    · simp only [Act.put, List.setIfInBounds_toArray, List.set_cons_zero, List.set_cons_succ, i64_w, i32_w]
      rfl
    refine pure_ (i := 2) (N := some 12) (v := ?_) (a' := ?_) #[true, true, true, false, false, false, false, false, false, false, false, false, false, false, false, false, false, false, false, false, false, false, false] rfl rfl (by kernel_rfl) (fun _ _ _ h => h) (Or.inl ⟨by rfl, ?_⟩) ?_ ?_
    rotate_left
    · intro w'
      go_simp
      with_reducible rfl
    rotate_left
    · simp only [Act.put, List.setIfInBounds_toArray, List.set_cons_zero, List.set_cons_succ, i64_w, i32_w]
      rfl
    refine pure_ (i := 4) (N := some 14) (v := ?_) (a' := ?_) #[true, true, true, false, true, false, false, false, false, false, false, false, false, false, false, false, false, false, false, false, false, false, false] rfl rfl (by kernel_rfl) (fun _ _ _ h => h) (Or.inl ⟨by rfl, ?_⟩) ?_ ?_
    rotate_left
    · intro w'
      go_simp
      with_reducible rfl
    rotate_left
    · simp only [Act.put, List.setIfInBounds_toArray, List.set_cons_zero, List.set_cons_succ, i64_w, i32_w]
      rfl
    refine pure_ (i := 5) (N := some 15) (v := ?_) (a' := ?_) #[true, true, true, false, true, true, false, false, false, false, false, false, false, false, false, false, false, false, false, false, false, false, false] rfl rfl (by kernel_rfl) (fun _ _ _ h => h) (Or.inl ⟨by rfl, ?_⟩) ?_ ?_
    rotate_left
    · intro w'
      go_simp
      with_reducible rfl
    rotate_left
    · simp only [Act.put, List.setIfInBounds_toArray, List.set_cons_zero, List.set_cons_succ, i64_w, i32_w]
      rfl
    refine pure_ (i := 6) (N := some 16) (v := ?_) (a' := ?_) #[true, true, true, false, true, true, true, false, false, false, false, false, false, false, false, false, false, false, false, false, false, false, false] rfl rfl (by kernel_rfl) (fun _ _ _ h => h) (Or.inl ⟨by rfl, ?_⟩) ?_ ?_
    rotate_left
    · intro w'
      go_simp
      with_reducible rfl
    rotate_left
    · simp only [Act.put, List.setIfInBounds_toArray, List.set_cons_zero, List.set_cons_succ, i64_w, i32_w]
      rfl
    refine take_ (i := 3) (N := some 13) (v := ?_) (a' := ?_) #[true, true, true, true, true, true, true, false, false, false, false, false, false, false, false, false, false, false, false, false, false, false, false] rfl rfl (by kernel_rfl) (fun _ _ _ h => h) (Or.inl ⟨by rfl, ?_⟩) hHeld ?_ ?_
    rotate_left
    · rintro w' ⟨s0, s1⟩
      go_simp
      with_reducible rfl
    rotate_left
    · simp only [Act.put, List.setIfInBounds_toArray, List.set_cons_zero, List.set_cons_succ, i64_w, i32_w]
      rfl
    refine take_ (i := 7) (N := some 17) (v := ?_) (a' := ?_) #[true, true, true, true, true, true, true, true, false, false, false, false, false, false, false, false, false, false, false, false, false, false, false] rfl rfl (by kernel_rfl) (fun _ _ _ h => h) (Or.inl ⟨by rfl, ?_⟩) hHeld ?_ ?_
    rotate_left
    · rintro w' ⟨s0, s1⟩
      go_simp
      with_reducible rfl
    rotate_left
    · simp only [Act.put, List.setIfInBounds_toArray, List.set_cons_zero, List.set_cons_succ, i64_w, i32_w]
      rfl
    refine pure_ (i := 8) (N := some 18) (v := ?_) (a' := ?_) #[true, true, true, true, true, true, true, true, true, false, false, false, false, false, false, false, false, false, false, false, false, false, false] rfl rfl (by kernel_rfl) (fun _ _ _ h => h) (Or.inl ⟨by rfl, ?_⟩) ?_ ?_
    rotate_left
    · intro w'
      go_simp
      with_reducible rfl
    rotate_left
    · simp only [Act.put, List.setIfInBounds_toArray, List.set_cons_zero, List.set_cons_succ, i64_w, i32_w]
      rfl
    refine pure_ (i := 9) (N := some 19) (v := ?_) (a' := ?_) #[true, true, true, true, true, true, true, true, true, true, false, false, false, false, false, false, false, false, false, false, false, false, false] rfl rfl (by kernel_rfl) (fun _ _ _ h => h) (Or.inl ⟨by rfl, ?_⟩) ?_ ?_
    rotate_left
    · intro w'
      go_simp
      with_reducible rfl
    rotate_left
    · simp only [Act.put, List.setIfInBounds_toArray, List.set_cons_zero, List.set_cons_succ, i64_w, i32_w]
      rfl
    refine pure_ (i := 10) (N := some 20) (v := ?_) (a' := ?_) #[true, true, true, true, true, true, true, true, true, true, true, false, false, false, false, false, false, false, false, false, false, false, false] rfl rfl (by kernel_rfl) (fun _ _ _ h => h) (Or.inl ⟨by rfl, ?_⟩) ?_ ?_
    rotate_left
    · intro w'
      go_simp
      with_reducible rfl
    rotate_left
    · simp only [Act.put, List.setIfInBounds_toArray, List.set_cons_zero, List.set_cons_succ, i64_w, i32_w]
      rfl
    refine pure_ (i := 11) (N := some 21) (v := ?_) (a' := ?_) #[true, true, true, true, true, true, true, true, true, true, true, true, false, false, false, false, false, false, false, false, false, false, false] rfl rfl (by kernel_rfl) (fun _ _ _ h => h) (Or.inl ⟨by rfl, ?_⟩) ?_ ?_
    rotate_left
    · intro w'
      go_simp
      with_reducible rfl
    rotate_left
    · simp only [Act.put, List.setIfInBounds_toArray, List.set_cons_zero, List.set_cons_succ, i64_w, i32_w]
      rfl
    refine pure_ (i := 12) (N := some 22) (v := ?_) (a' := ?_) #[true, true, true, true, true, true, true, true, true, true, true, true, true, false, false, false, false, false, false, false, false, false, false] rfl rfl (by kernel_rfl) (fun _ _ _ h => h) (Or.inl ⟨by rfl, ?_⟩) ?_ ?_
    rotate_left
    · intro w'
      go_simp
      with_reducible rfl
    rotate_left
    · simp only [Act.put, List.setIfInBounds_toArray, List.set_cons_zero, List.set_cons_succ, i64_w, i32_w]
      rfl
    refine pure_ (i := 13) (N := some 23) (v := ?_) (a' := ?_) #[true, true, true, true, true, true, true, true, true, true, true, true, true, true, false, false, false, false, false, false, false, false, false] rfl rfl (by kernel_rfl) (fun _ _ _ h => h) (Or.inl ⟨by rfl, ?_⟩) ?_ ?_
    rotate_left
    · intro w'
      go_simp
      with_reducible rfl
    rotate_left
    · simp only [Act.put, List.setIfInBounds_toArray, List.set_cons_zero, List.set_cons_succ, i64_w, i32_w]
      rfl
    refine pure_ (i := 15) (N := some 25) (v := ?_) (a' := ?_) #[true, true, true, true, true, true, true, true, true, true, true, true, true, true, false, true, false, false, false, false, false, false, false] rfl rfl (by kernel_rfl) (fun _ _ _ h => h) (Or.inl ⟨by rfl, ?_⟩) ?_ ?_
    rotate_left
    · intro w'
      go_simp
      with_reducible rfl
    rotate_left
    · simp only [Act.put, List.setIfInBounds_toArray, List.set_cons_zero, List.set_cons_succ, i64_w, i32_w]
      rfl
    refine pure_ (i := 16) (N := some 26) (v := ?_) (a' := ?_) #[true, true, true, true, true, true, true, true, true, true, true, true, true, true, false, true, true, false, false, false, false, false, false] rfl rfl (by kernel_rfl) (fun _ _ _ h => h) (Or.inl ⟨by rfl, ?_⟩) ?_ ?_
    rotate_left
    · intro w'
      go_simp
      with_reducible rfl
    rotate_left
    · simp only [Act.put, List.setIfInBounds_toArray, List.set_cons_zero, List.set_cons_succ, i64_w, i32_w]
      rfl
    refine pure_ (i := 17) (N := some 27) (v := ?_) (a' := ?_) #[true, true, true, true, true, true, true, true, true, true, true, true, true, true, false, true, true, true, false, false, false, false, false] rfl rfl (by kernel_rfl) (fun _ _ _ h => h) (Or.inl ⟨by rfl, ?_⟩) ?_ ?_
    rotate_left
    · intro w'
      go_simp
      with_reducible rfl
    rotate_left
    · simp only [Act.put, List.setIfInBounds_toArray, List.set_cons_zero, List.set_cons_succ, i64_w, i32_w]
      rfl
    refine take_ (i := 14) (N := some 24) (v := ?_) (a' := ?_) #[true, true, true, true, true, true, true, true, true, true, true, true, true, true, true, true, true, true, false, false, false, false, false] rfl rfl (by kernel_rfl) (fun _ _ _ h => h) (Or.inl ⟨by rfl, ?_⟩) hHeld ?_ ?_
    rotate_left
    · rintro w' ⟨s0, s1⟩
      go_simp
      with_reducible rfl
    rotate_left
    · simp only [Act.put, List.setIfInBounds_toArray, List.set_cons_zero, List.set_cons_succ, i64_w, i32_w]
      rfl
    refine take_ (i := 18) (N := some 28) (v := ?_) (a' := ?_) #[true, true, true, true, true, true, true, true, true, true, true, true, true, true, true, true, true, true, true, false, false, false, false] rfl rfl (by kernel_rfl) (fun _ _ _ h => h) (Or.inl ⟨by rfl, ?_⟩) hHeld ?_ ?_
    rotate_left
    · rintro w' ⟨s0, s1⟩
      go_simp
      with_reducible rfl
    rotate_left
    · simp only [Act.put, List.setIfInBounds_toArray, List.set_cons_zero, List.set_cons_succ, i64_w, i32_w]
      rfl
    refine take_ (i := 19) (N := some 29) (v := ?_) (a' := ?_) #[true, true, true, true, true, true, true, true, true, true, true, true, true, true, true, true, true, true, true, true, false, false, false] rfl rfl (by kernel_rfl) (fun _ _ _ h => h) (Or.inl ⟨by rfl, ?_⟩) hHeld ?_ ?_
    rotate_left
    · rintro w' ⟨s0, s1⟩
      go_simp
      with_reducible rfl
    rotate_left
    · simp only [Act.put, List.setIfInBounds_toArray, List.set_cons_zero, List.set_cons_succ, i64_w, i32_w]
      rfl
    refine one_ (i := 20) (N := some 30) #[true, true, true, true, true, true, true, true, true, true, true, true, true, true, true, true, true, true, true, true, true, false, false] rfl rfl (by kernel_rfl) (by decide) (fun K hK => ?_)
    refine goes_ Tryz.func104 (by kernel_rfl) rfl #[.int .u8 ((s[i + 2].toNat : Nat) : Int)] (by rfl) rfl rfl (by simp only [List.map_toArray, List.map_cons, List.map_nil]; rfl) ?_
    with_reducible refine (LC _).mono ?_
    rintro e w3 ⟨rfl, hd2⟩
    refine ⟨_, rfl, ?_⟩
    have hdd := drawn_trans (⟨⟨1, rfl⟩⟩ : Drawn0 w1 w1.drew) hd2
    refine hK.out _ _ ⟨pw_cell_below hd2.below c0, pw_cell_below hd2.below c1⟩ (fun hHeld => ?_)
    clear hK K
    refine norm_ (a' := ?_) ?_ ?_
    rotate_left
    · show Act.put _ (some 30) _ = _
      simp only [Act.put, List.setIfInBounds_toArray, List.set_cons_zero, List.set_cons_succ, i64_w, i32_w]
      rfl
    refine pure_ (i := 21) (N := some 31) (v := ?_) (a' := ?_) #[true, true, true, true, true, true, true, true, true, true, true, true, true, true, true, true, true, true, true, true, true, true, false] rfl rfl (by kernel_rfl) (fun _ _ _ h => h) (Or.inl ⟨by rfl, ?_⟩) ?_ ?_
    rotate_left
    · intro w'
      go_simp
      with_reducible rfl
    rotate_left
    · simp only [Act.put, List.setIfInBounds_toArray, List.set_cons_zero, List.set_cons_succ, i64_w, i32_w]
      rfl
    refine pure_ (i := 22) (N := some 32) (v := ?_) (a' := ?_) #[true, true, true, true, true, true, true, true, true, true, true, true, true, true, true, true, true, true, true, true, true, true, true] rfl rfl (by kernel_rfl) (fun _ _ _ h => h) (Or.inl ⟨by rfl, ?_⟩) ?_ ?_
    rotate_left
    · intro w'
      go_simp
      with_reducible rfl
    rotate_left
    · simp only [Act.put, List.setIfInBounds_toArray, List.set_cons_zero, List.set_cons_succ, i64_w, i32_w]
      rfl
    refine done_ (by kernel_rfl) ?_
    cases lb
    · rw [if_neg (by decide)] at hr
      obtain rfl := Option.some.inj hr
      clear hr
      go_wp2
      go_ret
      exact ⟨rfl, by first | exact (HM.drewN _).below | exact ((HM.drewN _).drewN _).below | exact (HM.later hdd.below).below⟩
    · rw [if_pos rfl] at hr
      have HR := Lib.hid hr
      clear hr
      go_wp2_with (go_at_call 126; refine (TC _ (HM.later hdd.below) HR.out).mono ?_; rintro e w3 ⟨rfl, h2, h3⟩)
      go_ret
      exact ⟨rfl, h2, h3⟩
end Go.Proofs.YtpfhgolamlnhiaaGreatDoor

set_option linter.unusedVariables false
set_option linter.unusedSimpArgs false
namespace Go.Proofs.YtpfhgolamlnhiaaGreatDoor
open Go.RowKit Go.Proofs.YtpfhgolamlnhiaaGreatDoorW.PrintWords Go.Proofs.YtpfhgolamlnhiaaGreatDoorW.PrintLast Go.Proofs.YtpfhgolamlnhiaaGreatDoor.XT Go.Proofs.YtpfhgolamlnhiaaGreatDoor.XQ

theorem nextN_ge {R : ByteArray} (h : nextN R ≠ 0) : 2 ≤ R.size := by
  unfold nextN at h
  by_cases h2 : R.size < 2
  · rw [if_pos h2] at h
    exact absurd rfl h
  · omega
theorem nextN_cases (R : ByteArray) : nextN R = 0 ∨ nextN R = 1 ∨ nextN R = 2 ∨ nextN R = 3 ∨ nextN R = 4 := by
  unfold nextN
  (repeat' split) <;> simp
theorem nextN_comment {s : ByteArray} {i : Nat} (h : nextN (s.extract i s.size) = 3) (hi : i ≤ s.size) : i + 4 ≤ s.size := by
  unfold nextN at h
  split at h
  · cases h
  split at h
  · cases h
  split at h
  · cases h
  split at h
  · cases h
  split at h
  · rename_i hp
    have h2 := List.IsPrefix.length_le (List.isPrefixOf_iff_prefix.1 hp)
    rw [Sv.size_list, ByteArray.size_extract] at h2
    simp only [List.length_cons, List.length_nil] at h2
    omega
  · split at h
    · cases h
    · split at h <;> cases h
theorem Rdr.open_ {g : Nat} {s : ByteArray} {i : Nat} {acc : List TokD} {out : Value} {w0 w : World} (h : Rdr g s i acc out w0 w) : ∃ A c, out = .slice A acc.length c ∧ acc.length ≤ c ∧ Kd.C k25 w A acc.length acc := Kd.R_reads h.row
set_option maxHeartbeats 8000000 in
set_option maxRecDepth 100000 in
theorem tokens_calls (k : Nat) (s : ByteArray) (l : List TokD) (er pl : Int) (w : World) (hG : G2 w) (hs : s.size ≤ 4611686018427387904) (h : tokensK k s = some (l, er, pl)) :
    Calls Tryz.prog 49 #[.string s] w fun e w' => ∃ A c, e = .returned (.tuple #[.slice A l.length c, .int .i64 er, .int .i64 pl]) ∧ l.length ≤ c ∧ Kd.C k25 w' A l.length l ∧ Below w.heap.size w w' := by
  unfold tokensK at h
  have HG := Lib.hid hG
  clear hG
  by_cases h1 : 65536 < s.size
  · rw [if_pos h1] at h
    simp only [Option.some.injEq, Prod.mk.injEq] at h
    obtain ⟨rfl, rfl, rfl⟩ := h
    have hb : (65536 : Int) < (s.size : Int) := by omega
    go_enter Tryz.func49, Tryz.ntmps49
    go_wp2_with fail
    go_ret3
    exact ⟨none, 0, rfl, Nat.le_refl _, Kd.C_nil _ _, Below.refl _ _⟩
  · rw [if_neg h1] at h
    have hs2 : s.size ≤ 65536 := by omega
    have HS := Lib.hid hs2
    have hb : ¬ (65536 : Int) < (s.size : Int) := by omega
    have IB := fun (w : World) => Tryz.strings_IndexByte s 0 w
    rw [show (0 : Int).toNat.toUInt8 = 0 from rfl] at IB
    generalize Lib.indexByte s.data.toList 0 = ix at *
    by_cases h0 : 0 ≤ ix
    · rw [if_pos h0] at h
      simp only [Option.some.injEq, Prod.mk.injEq] at h
      obtain ⟨rfl, rfl, rfl⟩ := h
      clear hs2 h1 HS
      go_enter Tryz.func49, Tryz.ntmps49
      go_wp2_with (go_at_call 86; refine (IB _).mono ?_; rintro e w1 ⟨rfl, rfl⟩)
      go_ret3
      exact ⟨none, 0, rfl, Nat.le_refl _, Kd.C_nil _ _, Below.refl _ _⟩
    · rw [if_neg h0] at h
      have HH := Lib.hid h
      clear h hs2 h1
      go_enter Tryz.func49, Tryz.ntmps49
      go_wp2_with (go_at_call 86; refine (IB _).mono ?_; rintro e w1 ⟨rfl, rfl⟩)
      go_loopg [7, 8] k (fun kq v7 v8 wr => ∃ (i : Nat) (acc : List TokD) (out : Value), i ≤ s.size ∧ Hid (tokGo k s kq i acc = some (l, er, pl)) ∧ Hid (Rdr w1.heap.size s i acc out w1 wr))
      case atStart => exact ⟨0, [], .slice none 0 0, Nat.zero_le _, HH, Lib.hid ⟨blk_new _ _, Kd.R_nil _ _ _ _ _, below_alloc (Below.refl _ _) _, Nat.le_refl _⟩⟩
      case round =>
        obtain ⟨i, acc, out, hi, hd, hR⟩ := hrel
        cases gk with
        | zero => have := hd.out; simp [tokGo] at this
        | succ k3 =>
          have c0 := hR.out.box.cell0
          have c1 := hR.out.box.cell1
          have hg := hd.out
          rw [tokGo] at hg
          clear hd
          by_cases hlt : i < s.size
          · rw [if_pos hlt] at hg
            have hlt' : (i : Int) < (s.size : Int) := by omega
            split at hg
            case isFalse => cases hg
            rename_i hla
            obtain ⟨r, hr, hg⟩ := Option.bind_eq_some_iff.1 hg
            have NC := fun (w2 : World) (h2 : RdAt w1.heap.size s i out w2) => next_calls w1.heap.size s i out w2 h2 hi
            unfold stepK at hr
            by_cases hN0 : nextN (s.extract i s.size) = 0
            · rw [if_pos hN0] at hr
              rw [hN0] at NC
              change ∀ (w2 : World), RdAt w1.heap.size s i out w2 → Calls Tryz.prog 87 #[.pointer (some ⟨w1.heap.size, 0, none⟩)] w2 fun e w' => e = .returned (.func (.func 103) #[.pointer (some ⟨w1.heap.size, 0, none⟩)] #[]) ∧ Drawn0 w2 w' at NC
              unfold textK at hr
              obtain ⟨d, hd, hr⟩ := Option.bind_eq_some_iff.1 hr
              obtain rfl := Option.some.inj hr
              rw [if_pos rfl] at hg
              split at hg
              case isFalse => cases hg
              rename_i hle
              have TC := fun (w2 : World) (h2 : Rdr w1.heap.size s i acc out w1 w2) => text_calls w1.heap.size s d i k acc out w1 w2 h2 HG.out hlt HS.out hla hd
              have HN := Lib.hid hg
              have HL := Lib.hid hle
              clear hg hd hr hle hN0
              go_wp2_with (first | (go_at_call 87; refine (NC _ hR.out.box).mono ?_; rintro e w3 ⟨rfl, hd3⟩; have HR3 := hR.out.later hd3.below) | (go_at_call 103; refine (TC _ HR3).mono ?_; rintro e w4 ⟨rfl, out4, h4⟩))
              go_roundg k3
              case measure => omega
              case rel => exact ⟨_, _, out4, HL.out, HN, Lib.hid h4⟩
            · rw [if_neg hN0] at hr
              have hR2 := nextN_ge hN0
              rw [ByteArray.size_extract] at hR2
              have hi2 : i + 2 ≤ s.size := by omega
              by_cases hN1 : nextN (s.extract i s.size) = 1
              · rw [if_pos hN1] at hr
                rw [hN1] at NC
                change ∀ (w2 : World), RdAt w1.heap.size s i out w2 → Calls Tryz.prog 87 #[.pointer (some ⟨w1.heap.size, 0, none⟩)] w2 fun e w' => e = .returned (.func (.func 105) #[.pointer (some ⟨w1.heap.size, 0, none⟩)] #[]) ∧ Drawn0 w2 w' at NC
                obtain ⟨e1, i1, t1⟩ := r
                dsimp only at hg
                have TC : ∀ w2, Rdr w1.heap.size s i acc out w1 w2 → _ := fun w2 h2 => start_calls w1.heap.size s i k acc out (e1, i1, t1) w1 w2 h2 HG.out (by omega) HS.out hla hr
                dsimp only at TC
                clear hr
                by_cases he : e1 = 0
                · rw [if_pos he] at hg
                  split at hg
                  case isFalse => cases hg
                  rename_i hle
                  have TC' := TC
                  have HN := Lib.hid hg
                  have HL := Lib.hid hle
                  have hq : (e1 != 0) = false := by rw [bne_eq_false_iff_eq]; exact he
                  clear hg hle TC
                  go_wp2_with (first | (go_at_call 87; refine (NC _ hR.out.box).mono ?_; rintro e w3 ⟨rfl, hd3⟩; have HR3 := hR.out.later hd3.below) | (go_at_call 105; refine (TC' _ HR3).mono ?_; rintro e w4 ⟨rfl, h4, b4⟩))
                  obtain ⟨out4, h4⟩ := h4 he
                  go_roundg k3
                  case measure => omega
                  case rel => exact ⟨_, _, out4, HL.out, HN, Lib.hid h4⟩
                · rw [if_neg he] at hg
                  simp only [Option.some.injEq, Prod.mk.injEq] at hg
                  obtain ⟨rfl, rfl, rfl⟩ := hg
                  have TC' := TC
                  have hq : (e1 != 0) = true := by rw [bne_iff_ne]; exact he
                  clear TC
                  go_wp2_with (first | (go_at_call 87; refine (NC _ hR.out.box).mono ?_; rintro e w3 ⟨rfl, hd3⟩; have HR3 := hR.out.later hd3.below) | (go_at_call 105; refine (TC' _ HR3).mono ?_; rintro e w4 ⟨rfl, h4, b4⟩))
                  go_ret3
                  exact ⟨none, 0, rfl, Nat.le_refl _, Kd.C_nil _ _, b4⟩
              · rw [if_neg hN1] at hr
                by_cases hN2 : nextN (s.extract i s.size) = 2
                · rw [if_pos hN2] at hr
                  rw [hN2] at NC
                  change ∀ (w2 : World), RdAt w1.heap.size s i out w2 → Calls Tryz.prog 87 #[.pointer (some ⟨w1.heap.size, 0, none⟩)] w2 fun e w' => e = .returned (.func (.func 106) #[.pointer (some ⟨w1.heap.size, 0, none⟩)] #[]) ∧ Drawn0 w2 w' at NC
                  obtain ⟨e1, i1, t1⟩ := r
                  dsimp only at hg
                  have TC : ∀ w2, Rdr w1.heap.size s i acc out w1 w2 → _ := fun w2 h2 => end_calls w1.heap.size s i k acc out (e1, i1, t1) w1 w2 h2 HG.out hi2 HS.out hla hr
                  dsimp only at TC
                  clear hr
                  by_cases he : e1 = 0
                  · rw [if_pos he] at hg
                    split at hg
                    case isFalse => cases hg
                    rename_i hle
                    have TC' := TC
                    have HN := Lib.hid hg
                    have HL := Lib.hid hle
                    have hq : (e1 != 0) = false := by rw [bne_eq_false_iff_eq]; exact he
                    clear hg hle TC
                    go_wp2_with (first | (go_at_call 87; refine (NC _ hR.out.box).mono ?_; rintro e w3 ⟨rfl, hd3⟩; have HR3 := hR.out.later hd3.below) | (go_at_call 106; refine (TC' _ HR3).mono ?_; rintro e w4 ⟨rfl, h4, b4⟩))
                    obtain ⟨out4, h4⟩ := h4 he
                    go_roundg k3
                    case measure => omega
                    case rel => exact ⟨_, _, out4, HL.out, HN, Lib.hid h4⟩
                  · rw [if_neg he] at hg
                    simp only [Option.some.injEq, Prod.mk.injEq] at hg
                    obtain ⟨rfl, rfl, rfl⟩ := hg
                    have TC' := TC
                    have hq : (e1 != 0) = true := by rw [bne_iff_ne]; exact he
                    clear TC
                    go_wp2_with (first | (go_at_call 87; refine (NC _ hR.out.box).mono ?_; rintro e w3 ⟨rfl, hd3⟩; have HR3 := hR.out.later hd3.below) | (go_at_call 106; refine (TC' _ HR3).mono ?_; rintro e w4 ⟨rfl, h4, b4⟩))
                    go_ret3
                    exact ⟨none, 0, rfl, Nat.le_refl _, Kd.C_nil _ _, b4⟩
                · rw [if_neg hN2] at hr
                  by_cases hN3 : nextN (s.extract i s.size) = 3
                  · rw [if_pos hN3] at hr
                    rw [hN3] at NC
                    change ∀ (w2 : World), RdAt w1.heap.size s i out w2 → Calls Tryz.prog 87 #[.pointer (some ⟨w1.heap.size, 0, none⟩)] w2 fun e w' => e = .returned (.func (.func 108) #[.pointer (some ⟨w1.heap.size, 0, none⟩)] #[]) ∧ Drawn0 w2 w' at NC
                    have hi4 := nextN_comment hN3 hi
                    obtain ⟨e1, i1, t1⟩ := r
                    dsimp only at hg
                    have TC : ∀ w2, Rdr w1.heap.size s i acc out w1 w2 → _ := fun w2 h2 => comment_calls w1.heap.size s i acc out (e1, i1, t1) w1 w2 h2 HG.out hi4 HS.out hla hr
                    dsimp only at TC
                    clear hr
                    by_cases he : e1 = 0
                    · rw [if_pos he] at hg
                      split at hg
                      case isFalse => cases hg
                      rename_i hle
                      have TC' := TC
                      have HN := Lib.hid hg
                      have HL := Lib.hid hle
                      have hq : (e1 != 0) = false := by rw [bne_eq_false_iff_eq]; exact he
                      clear hg hle TC
                      go_wp2_with (first | (go_at_call 87; refine (NC _ hR.out.box).mono ?_; rintro e w3 ⟨rfl, hd3⟩; have HR3 := hR.out.later hd3.below) | (go_at_call 108; refine (TC' _ HR3).mono ?_; rintro e w4 ⟨rfl, h4, b4⟩))
                      obtain ⟨out4, h4⟩ := h4 he
                      go_roundg k3
                      case measure => omega
                      case rel => exact ⟨_, _, out4, HL.out, HN, Lib.hid h4⟩
                    · rw [if_neg he] at hg
                      simp only [Option.some.injEq, Prod.mk.injEq] at hg
                      obtain ⟨rfl, rfl, rfl⟩ := hg
                      have TC' := TC
                      have hq : (e1 != 0) = true := by rw [bne_iff_ne]; exact he
                      clear TC
                      go_wp2_with (first | (go_at_call 87; refine (NC _ hR.out.box).mono ?_; rintro e w3 ⟨rfl, hd3⟩; have HR3 := hR.out.later hd3.below) | (go_at_call 108; refine (TC' _ HR3).mono ?_; rintro e w4 ⟨rfl, h4, b4⟩))
                      go_ret3
                      exact ⟨none, 0, rfl, Nat.le_refl _, Kd.C_nil _ _, b4⟩
                  · rw [if_neg hN3] at hr
                    have hN4 : nextN (s.extract i s.size) = 4 := (nextN_cases (s.extract i s.size)).resolve_left hN0 |>.resolve_left hN1 |>.resolve_left hN2 |>.resolve_left hN3
                    · skip
                      rw [hN4] at NC
                      change ∀ (w2 : World), RdAt w1.heap.size s i out w2 → Calls Tryz.prog 87 #[.pointer (some ⟨w1.heap.size, 0, none⟩)] w2 fun e w' => e = .returned (.func (.func 109) #[.pointer (some ⟨w1.heap.size, 0, none⟩)] #[]) ∧ Drawn0 w2 w' at NC
                      obtain ⟨e1, i1, t1⟩ := r
                      dsimp only at hg
                      have TC : ∀ w2, Rdr w1.heap.size s i acc out w1 w2 → _ := fun w2 h2 => mark_calls w1.heap.size s i acc out (e1, i1, t1) w1 w2 h2 (by omega) HS.out hla hr
                      dsimp only at TC
                      clear hr
                      by_cases he : e1 = 0
                      · rw [if_pos he] at hg
                        split at hg
                        case isFalse => cases hg
                        rename_i hle
                        have TC' := TC
                        have HN := Lib.hid hg
                        have HL := Lib.hid hle
                        have hq : (e1 != 0) = false := by rw [bne_eq_false_iff_eq]; exact he
                        clear hg hle TC
                        go_wp2_with (first | (go_at_call 87; refine (NC _ hR.out.box).mono ?_; rintro e w3 ⟨rfl, hd3⟩; have HR3 := hR.out.later hd3.below) | (go_at_call 109; refine (TC' _ HR3).mono ?_; rintro e w4 ⟨rfl, h4, b4⟩))
                        obtain ⟨out4, h4⟩ := h4 he
                        go_roundg k3
                        case measure => omega
                        case rel => exact ⟨_, _, out4, HL.out, HN, Lib.hid h4⟩
                      · rw [if_neg he] at hg
                        simp only [Option.some.injEq, Prod.mk.injEq] at hg
                        obtain ⟨rfl, rfl, rfl⟩ := hg
                        have TC' := TC
                        have hq : (e1 != 0) = true := by rw [bne_iff_ne]; exact he
                        clear TC
                        go_wp2_with (first | (go_at_call 87; refine (NC _ hR.out.box).mono ?_; rintro e w3 ⟨rfl, hd3⟩; have HR3 := hR.out.later hd3.below) | (go_at_call 109; refine (TC' _ HR3).mono ?_; rintro e w4 ⟨rfl, h4, b4⟩))
                        go_ret3
                        exact ⟨none, 0, rfl, Nat.le_refl _, Kd.C_nil _ _, b4⟩
          · rw [if_neg hlt] at hg
            have hlt' : ¬ (i : Int) < (s.size : Int) := by omega
            obtain rfl : i = s.size := by omega
            rw [if_pos rfl] at hg
            simp only [Option.some.injEq, Prod.mk.injEq] at hg
            obtain ⟨rfl, rfl, rfl⟩ := hg
            have c2 := hR.out.box.cell2
            obtain ⟨A, c, rfl, hc, hC⟩ := hR.out.open_
            clear hlt
            go_wp2_with fail
            go_ret3
            exact ⟨A, c, rfl, hc, hC, hR.out.below⟩
end Go.Proofs.YtpfhgolamlnhiaaGreatDoor
