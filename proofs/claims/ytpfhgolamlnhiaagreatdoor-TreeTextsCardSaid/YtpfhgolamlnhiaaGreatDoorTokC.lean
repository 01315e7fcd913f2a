/- token.reader.comment: a comment. -/
import Derived.Test.YtpfhgolamlnhiaaGreatDoorTokT
set_option linter.unusedVariables false
set_option linter.unusedSimpArgs false
namespace Go.Proofs.YtpfhgolamlnhiaaGreatDoor
open Go.RowKit Go.Proofs.YtpfhgolamlnhiaaGreatDoorW.PrintWords Go.Proofs.YtpfhgolamlnhiaaGreatDoorW.PrintLast Go.Proofs.YtpfhgolamlnhiaaGreatDoor.XT Go.Proofs.YtpfhgolamlnhiaaGreatDoor.XQ

theorem index_ge : ∀ (l p : List UInt8), -1 ≤ Lib.index l p ∧ Lib.index l p ≤ l.length
  | [], p => by unfold Lib.index; split <;> simp
  | b :: l, p => by
    have := index_ge l p
    unfold Lib.index
    split
    · simp; omega
    · split
      · simp; omega
      · rw [List.length_cons]; omega
set_option maxHeartbeats 8000000 in
set_option maxRecDepth 100000 in
theorem comment_calls (g : Nat) (s : ByteArray) (i : Nat) (acc : List TokD) (out : Value) (r : Int × Nat × TokD) (w0 w : World) (h : Rdr g s i acc out w0 w) (hG : G2 w0) (hi : i + 4 ≤ s.size) (hs : s.size ≤ 65536) (hl : acc.length < 65536)
    (hr : commentK s i = some r) :
    Calls Tryz.prog 108 #[.pointer (some ⟨g, 0, none⟩)] w fun e w' => e = .returned (.int .i64 r.1) ∧ (r.1 = 0 → ∃ out', Rdr g s r.2.1 (acc ++ [r.2.2]) out' w0 w') ∧ Below w0.heap.size w0 w' := by
  have c1 := h.box.cell1
  have f1 := h.box.frz 1
  have HM := Lib.hid (h.move (i + 4) (z := (i : Int) + 4) (by omega))
  have HL := Lib.hid hl
  have HG := Lib.hid hG
  obtain ⟨mm, hmm⟩ := hG.ml
  have HMM := Lib.hid hmm
  unfold commentK at hr
  dsimp only at hr
  have hx : (s.extract (i + 4) s.size).size = s.size - (i + 4) := by rw [ByteArray.size_extract]; omega
  have RC := fun (w1 : World) (h1 : RdAt g s (i + 4) out w1) => rest_calls g s (i + 4) out w1 h1 hi
  generalize hR : s.extract (i + 4) s.size = R at *
  have CC := fun (w1 : World) (h1 : w1.cell? ⟨2, 0, none⟩ = some (.int .i64 mm)) => Tryz.strings_Cut R ⟨#[45, 45, 62]⟩ mm w1 (by omega) h1
  have e3 : (⟨#[45, 45, 62]⟩ : ByteArray).data.toList = [45, 45, 62] := rfl
  rw [e3] at CC
  have hcl : (Lib.cut R.data.toList [45, 45, 62]).1.length ≤ R.size := by
    unfold Lib.cut
    split
    · rw [List.length_take, Sv.size_list]; omega
    · rw [Sv.size_list]; omega
  obtain ⟨V, rt, ok, hc⟩ : ∃ (V : ByteArray) (rt : List UInt8) (ok : Bool), Lib.cut R.data.toList [45, 45, 62] = (V.data.toList, rt, ok) := ⟨⟨(Lib.cut R.data.toList [45, 45, 62]).1.toArray⟩, _, _, rfl⟩
  rw [hc] at hr CC hcl
  dsimp only at hr CC hcl
  have hV : (⟨V.data.toList.toArray⟩ : ByteArray) = V := rfl
  rw [hV] at hr CC
  rw [Sv.size_list] at hr hcl
  have P1 := fun (w1 : World) => Tryz.strings_HasPrefix V ⟨#[62]⟩ w1
  have P2 := fun (w1 : World) => Tryz.strings_HasPrefix V ⟨#[45, 62]⟩ w1
  have P3 := fun (w1 : World) => Tryz.strings_HasPrefix R ⟨#[62]⟩ w1
  have P4 := fun (w1 : World) => Tryz.strings_HasPrefix R ⟨#[45, 62]⟩ w1
  have I1 := fun (w1 : World) (h1 : w1.cell? ⟨2, 0, none⟩ = some (.int .i64 mm)) => Tryz.strings_Index V ⟨#[45, 45, 33, 62]⟩ mm w1 (by omega) h1
  have I2 := fun (w1 : World) (h1 : w1.cell? ⟨2, 0, none⟩ = some (.int .i64 mm)) => Tryz.strings_Index V ⟨#[60, 33, 45, 45]⟩ mm w1 (by omega) h1
  have S1 := fun (w1 : World) => Tryz.strings_HasSuffix V ⟨#[60, 33, 45]⟩ w1 (by omega)
  rw [show (⟨#[62]⟩ : ByteArray).data.toList = [62] from rfl] at P1 P3
  rw [show (⟨#[45, 62]⟩ : ByteArray).data.toList = [45, 62] from rfl] at P2 P4
  rw [show (⟨#[45, 45, 33, 62]⟩ : ByteArray).data.toList = [45, 45, 33, 62] from rfl] at I1
  rw [show (⟨#[60, 33, 45, 45]⟩ : ByteArray).data.toList = [60, 33, 45, 45] from rfl] at I2
  rw [show (⟨#[60, 33, 45]⟩ : ByteArray).data.toList = [60, 33, 45] from rfl] at S1
  have hvl : V.size ≤ 65536 := by omega
  generalize Lib.hasPrefix V.data.toList [62] = p1 at *
  generalize Lib.hasPrefix V.data.toList [45, 62] = p2 at *
  generalize Lib.hasPrefix R.data.toList [62] = p3 at *
  generalize Lib.hasPrefix R.data.toList [45, 62] = p4 at *
  generalize Lib.index V.data.toList [45, 45, 33, 62] = x1 at *
  generalize Lib.index V.data.toList [60, 33, 45, 45] = x2 at *
  generalize Lib.hasSuffix V.data.toList [60, 33, 45] = s1 at *
  have HR := Lib.hid hr
  have hib : i ≤ 65536 := by omega
  clear hr e3 hc hR h hs hl hG hmm hV
  have ML : ∀ w1, Rdr g s (i + 4) acc out w0 w1 → w1.cell? ⟨2, 0, none⟩ = some (.int .i64 mm) := fun w1 h1 => cell_below h1.below HMM.out
  go_enter Tryz.func108, Tryz.ntmps108
  go_upto_region 3 with (first | (go_at_call 102; refine (RC _ HM.out.box).mono ?_; rintro e w1 ⟨rfl, hd1⟩; have HM1 := Lib.hid (HM.out.later hd1.below)) | (go_at_call 128; refine (CC _ (ML _ HM1.out)).mono ?_; rintro e w2 ⟨rfl, nd, rfl⟩))
  have HM2 := Lib.hid (HM1.out.later (pw_below_drewN (Below.refl _ _) nd))
  generalize w1.drewN nd = w2 at *
  clear HM HM1 hd1 c1 f1 CC
  cases ok
  · have hr := HR.out
    rw [if_pos rfl] at hr
    obtain rfl := Option.some.inj hr
    clear hr HR
    go_wp2_with fail
    go_ret
    exact ⟨rfl, HM2.out.below⟩
  have hr := HR.out
  clear HR
  rw [if_neg (by decide)] at hr
  cases p1
  case true =>
    rw [if_pos rfl] at hr
    obtain rfl := Option.some.inj hr
    clear hr
    go_wp2_with (go_at_call 107; refine (P1 _).mono ?_; rintro e w3 ⟨rfl, rfl⟩)
    go_ret
    exact ⟨rfl, HM2.out.below⟩
  rw [if_neg (by decide)] at hr
  cases p2
  case true =>
    rw [if_pos rfl] at hr
    obtain rfl := Option.some.inj hr
    clear hr
    go_wp2_with (first | (go_at_call 107; refine (P1 _).mono ?_; rintro e w3 ⟨rfl, rfl⟩; clear P1) | (go_at_call 107; refine (P2 _).mono ?_; rintro e w3 ⟨rfl, rfl⟩; clear P2))
    go_ret
    exact ⟨rfl, HM2.out.below⟩
  rw [if_neg (by decide)] at hr
  cases p3
  case true =>
    rw [if_pos rfl] at hr
    obtain rfl := Option.some.inj hr
    clear hr
    go_wp2_with (first | (go_at_call 107; refine (P1 _).mono ?_; rintro e w3 ⟨rfl, rfl⟩; clear P1) | (go_at_call 107; refine (P2 _).mono ?_; rintro e w3 ⟨rfl, rfl⟩; clear P2) | (go_at_call 102; refine (RC _ HM2.out.box).mono ?_; rintro e w4 ⟨rfl, hd4⟩; have HM4 := Lib.hid (HM2.out.later hd4.below)) | (go_at_call 107; refine (P3 _).mono ?_; rintro e w3 ⟨rfl, rfl⟩; clear P3))
    go_ret
    exact ⟨rfl, HM4.out.below⟩
  rw [if_neg (by decide)] at hr
  cases p4
  case true =>
    rw [if_pos rfl] at hr
    obtain rfl := Option.some.inj hr
    clear hr
    go_wp2_with (first | (go_at_call 107; refine (P1 _).mono ?_; rintro e w3 ⟨rfl, rfl⟩; clear P1) | (go_at_call 107; refine (P2 _).mono ?_; rintro e w3 ⟨rfl, rfl⟩; clear P2) | (go_at_call 102; refine (RC _ HM2.out.box).mono ?_; rintro e w4 ⟨rfl, hd4⟩; have HM4 := Lib.hid (HM2.out.later hd4.below)) | (go_at_call 107; refine (P3 _).mono ?_; rintro e w3 ⟨rfl, rfl⟩; clear P3) | (go_at_call 102; refine (RC _ HM4.out.box).mono ?_; rintro e w5 ⟨rfl, hd5⟩; have HM5 := Lib.hid (HM4.out.later hd5.below)) | (go_at_call 107; refine (P4 _).mono ?_; rintro e w3 ⟨rfl, rfl⟩; clear P4))
    go_ret
    exact ⟨rfl, HM5.out.below⟩
  rw [if_neg (by decide)] at hr
  have HR := Lib.hid hr
  clear hr
  go_upto_region 5 with (first | (go_at_call 107; refine (P1 _).mono ?_; rintro e w3 ⟨rfl, rfl⟩; clear P1) | (go_at_call 107; refine (P2 _).mono ?_; rintro e w3 ⟨rfl, rfl⟩; clear P2) | (go_at_call 102; refine (RC _ HM2.out.box).mono ?_; rintro e w4 ⟨rfl, hd4⟩; have HM4 := Lib.hid (HM2.out.later hd4.below)) | (go_at_call 107; refine (P3 _).mono ?_; rintro e w3 ⟨rfl, rfl⟩; clear P3) | (go_at_call 102; refine (RC _ HM4.out.box).mono ?_; rintro e w5 ⟨rfl, hd5⟩; have HM5 := Lib.hid (HM4.out.later hd5.below)) | (go_at_call 107; refine (P4 _).mono ?_; rintro e w3 ⟨rfl, rfl⟩; clear P4))
  clear HM2 HM4 hd4 hd5 RC
  have hr := HR.out
  clear HR
  by_cases hx1 : 0 ≤ x1
  · rw [if_pos hx1] at hr
    obtain rfl := Option.some.inj hr
    clear hr
    go_wp2_with (go_at_call 129; refine (I1 _ (ML _ HM5.out)).mono ?_; rintro e w6 ⟨rfl, rfl⟩; clear I1)
    go_ret
    exact ⟨rfl, HM5.out.below⟩
  rw [if_neg hx1] at hr
  by_cases hx2 : 0 ≤ x2
  · rw [if_pos hx2] at hr
    obtain rfl := Option.some.inj hr
    clear hr
    go_wp2_with (first | (go_at_call 129; refine (I1 _ (ML _ HM5.out)).mono ?_; rintro e w6 ⟨rfl, rfl⟩; clear I1) | (go_at_call 129; refine (I2 _ (ML _ HM5.out)).mono ?_; rintro e w6 ⟨rfl, rfl⟩; clear I2))
    go_ret
    exact ⟨rfl, HM5.out.below⟩
  rw [if_neg hx2] at hr
  cases s1
  case true =>
    rw [if_pos rfl] at hr
    obtain rfl := Option.some.inj hr
    clear hr
    go_wp2_with (first | (go_at_call 129; refine (I1 _ (ML _ HM5.out)).mono ?_; rintro e w6 ⟨rfl, rfl⟩; clear I1) | (go_at_call 129; refine (I2 _ (ML _ HM5.out)).mono ?_; rintro e w6 ⟨rfl, rfl⟩; clear I2) | (go_at_call 130; refine (S1 _).mono ?_; rintro e w6 ⟨rfl, rfl⟩; clear S1))
    go_ret
    exact ⟨rfl, HM5.out.below⟩
  rw [if_neg (by decide)] at hr
  obtain rfl := Option.some.inj hr
  clear hr
  have k1 := HM5.out.box.cell1
  have q1 := HM5.out.box.frz 1
  go_upto_region 8 with (first | (go_at_call 129; refine (I1 _ (ML _ HM5.out)).mono ?_; rintro e w6 ⟨rfl, rfl⟩; clear I1) | (go_at_call 129; refine (I2 _ (ML _ HM5.out)).mono ?_; rintro e w6 ⟨rfl, rfl⟩; clear I2) | (go_at_call 130; refine (S1 _).mono ?_; rintro e w6 ⟨rfl, rfl⟩; clear S1))
  have HM7 := Lib.hid (HM5.out.move (i + 4 + (V.size + 3)) (z := (i : Int) + 4 + ((V.size : Int) + 3)) (by omega))
  generalize w6.setCell ⟨g, 1, none⟩ (.int .i64 ((i : Int) + 4 + ((V.size : Int) + 3))) = w7 at *
  clear HM5 k1 q1 ML
  have c2 := HM7.out.box.cell2
  have q2 := HM7.out.box.frz 2
  go_wp2_with (at_builtin; refine Kd.R_append k25 (w0 := w0) w0.heap.size rfl (.tmp 66) (.tmp 69) 22 25 (.agg #[(.int .u8 0), (.string ⟨#[]⟩), (.slice none 0 0), (.bool false), (.string ⟨#[]⟩)]) 72 rfl Tryz.underlying22 info25 rfl (by decide) (by decide) out acc ⟨4, ⟨#[]⟩, [], false, V⟩ [.int .u8 4, .string ⟨#[]⟩, .slice none 0 0, .bool false, .string V] (fun _ => True) (fun _ => False) rfl rfl (k25_mkM _ _ _ ⟨4, ⟨#[]⟩, [], false, V⟩ (Kd.R_nil _ _ _ _ _)) (fun _ hk => hk.elim) (fun _ _ => trivial) HM7.out.row HM7.out.below HM7.out.below.size (by have := HL.out; omega) ?_; intro v1 w3 ho3 hb3 hg3 hat3; obtain ⟨A1, n1, rfl⟩ := Kd.R_slice ho3; rw [List.length_append, List.length_singleton] at ho3; rw [List.length_append, List.length_singleton]; have hB3 := Lib.hid (show RdAt g s (i + 4 + (V.size + 3)) out w3 from blk_grown HM7.out.box hg3 (Kd.R_ne HM7.out.row HM7.out.box (by decide))); have d3 := hB3.out.cell2; have g3 := hB3.out.frz 2; have g0 := Lib.hid HM7.out.g0; clear HM7)
  go_ret
  exact ⟨rfl, ⟨_, blk_put hB3.out 2 _ rfl, Kd.R_set ho3 hB3.out rE 2 _, hb3.setCell g0.out _, g0.out⟩, hb3.setCell g0.out _⟩
end Go.Proofs.YtpfhgolamlnhiaaGreatDoor
