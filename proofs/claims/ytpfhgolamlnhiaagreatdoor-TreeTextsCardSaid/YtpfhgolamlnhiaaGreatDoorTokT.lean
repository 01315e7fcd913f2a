/- token.reader.next: how the next token is read. -/
import Derived.Test.YtpfhgolamlnhiaaGreatDoorTokP
import Derived.Deep.CutBlock
import Derived.Test.YtpfhgolamlnhiaaGreatDoorWLast
set_option linter.unusedVariables false
set_option linter.unusedSimpArgs false
namespace Go.Proofs.YtpfhgolamlnhiaaGreatDoor
open Go.RowKit Go.Proofs.YtpfhgolamlnhiaaGreatDoorW.PrintWords Go.Proofs.YtpfhgolamlnhiaaGreatDoor.XT Go.Proofs.YtpfhgolamlnhiaaGreatDoor.XQ

theorem drawn_trans {a b c : World} (h : Drawn0 a b) (k : Drawn0 b c) : Drawn0 a c := by
  obtain ⟨n, rfl⟩ := h.out
  obtain ⟨m, rfl⟩ := k.out
  exact ((Drawn0.refl a).step n).step m
theorem eq_of_beqI {a b : Nat} (h : ((a : Int) == (b : Int)) = true) : a = b := by rw [beq_iff_eq] at h; omega
theorem ne_of_beqI {a b : Nat} (h : ((a : Int) == (b : Int)) = false) : ¬ a = b := by rw [beq_eq_false_iff_ne] at h; omega
def nextF (n : Nat) : Nat := if n = 1 then 105 else if n = 2 then 106 else if n = 3 then 108 else if n = 4 then 109 else 103
set_option maxHeartbeats 2000000 in
set_option maxRecDepth 100000 in
theorem next_calls (g : Nat) (s : ByteArray) (i : Nat) (out : Value) (w : World) (h : RdAt g s i out w) (hi : i ≤ s.size) :
    Calls Tryz.prog 87 #[.pointer (some ⟨g, 0, none⟩)] w fun e w' => e = .returned (.func (.func (nextF (nextN (s.extract i s.size)))) #[.pointer (some ⟨g, 0, none⟩)] #[]) ∧ Drawn0 w w' := by
  have RC := rest_calls g s i out w h hi
  generalize s.extract i s.size = R at *
  clear h
  have HN : Hid (nextN R = if R.size < 2 then 0 else if Sv.at' R 0 ≠ 60 then 0 else if letB (Sv.at' R 1) = true then 1 else if Sv.at' R 1 = 47 then 2 else if Lib.hasPrefix R.data.toList [60, 33, 45, 45] = true then 3 else if Sv.at' R 1 = 33 then 4 else if Sv.at' R 1 = 63 then 4 else 0) := rfl
  generalize nextN R = N at *
  go_enter Tryz.func87, Tryz.ntmps87
  by_cases h2 : R.size < 2
  · have hN : N = 0 := by have := HN.out; rw [if_pos h2] at this; exact this
    clear HN
    have hl : (R.size : Int) < 2 := by omega
    go_wp2_with (go_at_call 102; refine RC.mono ?_; rintro e w1 ⟨rfl, hd1⟩)
    go_ret
    exact ⟨by rw [hN]; rfl, hd1⟩
  · have hN := HN.out
    clear HN
    rw [if_neg h2, at_get R 0 (by omega), at_get R 1 (by omega)] at hN
    have hl : ¬ (R.size : Int) < 2 := by omega
    have hl0 : (0 : Int) < (R.size : Int) := by omega
    have hl1 : (1 : Int) < (R.size : Int) := by omega
    have hl0n : 0 < R.size := by omega
    have hl1n : 1 < R.size := by omega
    have LC := fun (w : World) => token_letter.calls ((R[1].toNat : Nat) : Int) (letB R[1].toNat) w (letB_eq _)
    by_cases h0 : R[0].toNat = 60
    · rw [if_neg (by omega)] at hN
      have h0' : ((R[0].toNat : Int) != 60) = false := by rw [bne_eq_false_iff_eq]; omega
      have HC := fun (w : World) => Tryz.strings_HasPrefix R ⟨#[60, 33, 45, 45]⟩ w
      have e4 : (⟨#[60, 33, 45, 45]⟩ : ByteArray).data.toList = [60, 33, 45, 45] := rfl
      rw [e4] at HC
      generalize Lib.hasPrefix R.data.toList [60, 33, 45, 45] = hp at *
      go_wp2_with (go_at_call 102; refine RC.mono ?_; rintro e w1 ⟨rfl, hd1⟩)
      refine (LC _).mono ?_
      rintro e w2 ⟨rfl, hd2⟩
      dsimp only
      generalize letB R[1].toNat = lb at *
      clear LC RC
      cases lb
      · rw [if_neg (by decide)] at hN
        go_wp2_with fail
        · have hq := ‹((R[1].toNat : Int) == 47) = true›
          rw [if_pos (eq_of_beqI hq)] at hN
          go_ret
          exact ⟨by rw [hN]; rfl, drawn_trans hd1 hd2⟩
        · have hq := ‹((R[1].toNat : Int) == 47) = false›
          rw [if_neg (ne_of_beqI hq)] at hN
          refine (HC _).mono ?_
          rintro e w3 ⟨rfl, rfl⟩
          dsimp only
          clear HC
          cases hp
          · rw [if_neg (by decide)] at hN
            go_wp2_with fail
            · rw [if_pos (eq_of_beqI (by assumption))] at hN
              go_ret
              exact ⟨by rw [hN]; rfl, drawn_trans hd1 hd2⟩
            · rw [if_neg (ne_of_beqI (by assumption)), if_pos (eq_of_beqI (by assumption))] at hN
              go_ret
              exact ⟨by rw [hN]; rfl, drawn_trans hd1 hd2⟩
            · rw [if_neg (ne_of_beqI (by assumption)), if_neg (ne_of_beqI (by assumption))] at hN
              go_ret
              exact ⟨by rw [hN]; rfl, drawn_trans hd1 hd2⟩
          · rw [if_pos rfl] at hN
            go_wp2_with fail
            go_ret
            exact ⟨by rw [hN]; rfl, drawn_trans hd1 hd2⟩
      · rw [if_pos rfl] at hN
        go_wp2_with fail
        go_ret
        exact ⟨by rw [hN]; rfl, drawn_trans hd1 hd2⟩
    · rw [if_pos h0] at hN
      have h0' : ((R[0].toNat : Int) != 60) = true := by rw [bne_iff_ne]; omega
      go_wp2_with (go_at_call 102; refine RC.mono ?_; rintro e w1 ⟨rfl, hd1⟩)
      go_ret
      exact ⟨by rw [hN]; rfl, hd1⟩
end Go.Proofs.YtpfhgolamlnhiaaGreatDoor

set_option linter.unusedVariables false
set_option linter.unusedSimpArgs false
namespace Go.Proofs.YtpfhgolamlnhiaaGreatDoor
open Go.RowKit Go.Proofs.YtpfhgolamlnhiaaGreatDoorW.PrintWords Go.Proofs.YtpfhgolamlnhiaaGreatDoor.XT Go.Proofs.YtpfhgolamlnhiaaGreatDoor.XQ

/-- What cell j holds behind i rounds. -/
def smI (s : ByteArray) (i j : Nat) : Int := if j < i then ((smallB (s.data.toList.getD j 0)).toNat : Int) else ((s.data.toList.getD j 0).toNat : Int)
def SmAt (s : ByteArray) (g i : Nat) (w : World) : Prop := ∀ j, j < s.size → w.cell? ⟨g, j, none⟩ = some (.int .u8 (smI s i j)) ∧ w.frozen? ⟨g, j, none⟩ = false
theorem SmAt.same {s : ByteArray} {g i : Nat} {w : World} (h : SmAt s g i w) (hb : smallB (s.data.toList.getD i 0) = s.data.toList.getD i 0) : SmAt s g (i + 1) w := by
  intro j hj
  refine ⟨?_, (h j hj).2⟩
  rw [(h j hj).1]
  congr 2
  unfold smI
  by_cases h1 : j < i
  · rw [if_pos h1, if_pos (by omega)]
  · by_cases h2 : j = i
    · subst h2
      rw [if_neg h1, if_pos (by omega), hb]
    · rw [if_neg h1, if_neg (by omega)]
theorem SmAt.put {s : ByteArray} {g i : Nat} {w : World} (h : SmAt s g i w) (hi : i < s.size) {z : Int} (hz : z = ((smallB (s.data.toList.getD i 0)).toNat : Int)) : SmAt s g (i + 1) (w.setCell ⟨g, i, none⟩ (.int .u8 z)) := by
  intro j hj
  rw [World.frozen?_setCell]
  refine ⟨?_, (h j hj).2⟩
  by_cases h2 : j = i
  · subst h2
    rw [World.cell?_setCell_same _ _ _ (h j hj).1, hz]
    unfold smI
    rw [if_pos (by omega)]
  · rw [World.cell?_setCell_other _ _ _ _ (by intro e; injection e with _ e _; omega), (h j hj).1]
    congr 2
    unfold smI
    by_cases h1 : j < i
    · rw [if_pos h1, if_pos (by omega)]
    · rw [if_neg h1, if_neg (by omega)]
theorem smallB_lo (b : UInt8) (h : 65 ≤ b.toNat ∧ b.toNat ≤ 90) : ((smallB b).toNat : Int) = (b.toNat : Int) + 32 := by
  have h1 : 65 ≤ b ∧ b ≤ 90 := ⟨UInt8.le_iff_toNat_le.2 h.1, UInt8.le_iff_toNat_le.2 h.2⟩
  unfold smallB
  rw [if_pos h1, UInt8.toNat_add]
  have : (32 : UInt8).toNat = 32 := rfl
  omega
theorem smallB_hi (b : UInt8) (h : ¬ (65 ≤ b.toNat ∧ b.toNat ≤ 90)) : smallB b = b := by
  unfold smallB
  rw [if_neg]
  rintro ⟨h1, h2⟩
  exact h ⟨UInt8.le_iff_toNat_le.1 h1, UInt8.le_iff_toNat_le.1 h2⟩
theorem bytesWorld_below (w : World) (e : TypeId) (s : ByteArray) : Below w.heap.size w (Lib.bytesWorld w e s) :=
  ⟨by simp [Lib.bytesWorld, World.freeze, World.alloc, World.drew, -World.alloc_eq, -World.drew_eq], by simp [Lib.bytesWorld, World.freeze, World.alloc, World.drew, -World.alloc_eq, -World.drew_eq], by simp [Lib.bytesWorld, World.freeze, World.alloc, World.drew, -World.alloc_eq, -World.drew_eq], by rw [Lib.bytesWorld_size]; omega, fun k hk => Lib.bytesWorld_at_old w e s k hk⟩
theorem smAt0 (s : ByteArray) (w : World) (e : TypeId) : SmAt s w.heap.size 0 (Lib.bytesWorld w e s) := by
  intro j hj
  refine ⟨by rw [Lib.bytesWorld_cell w e s j hj]; rfl, ?_⟩
  have hs : s.size ≤ (Lib.bytesCells w e s).size := by simp [Lib.bytesCells]
  simp [World.frozen?, Lib.bytesWorld_at_new]
  omega
theorem smAt_reads {s : ByteArray} {w : World} {g : Nat} (h : SmAt s g s.size w) (hs : s.size ≤ 65536) : (Kd.int .u8).C w (some ⟨g, 0, none⟩) s.size (bytesOf (smallS s)) := by
  have hz : (smallS s).size = s.size := by
    show (List.toArray (s.data.toList.map smallB)).size = s.size
    rw [List.size_toArray, List.length_map]
    exact Sv.size_list s
  refine Kd.C_of_reads (enc := Value.int .u8) (d := (0 : Int)) (h1 := fun _ => rfl) ⟨by rw [bytesOf_length, hz], by omega, fun _ => ⟨_, rfl, fun j hj => ?_⟩⟩
  rw [add_plain, (h j hj).1]
  congr 2
  unfold smI bytesOf
  rw [if_pos hj]
  have hl : j < s.data.toList.length := by rw [Sv.size_list]; exact hj
  simp [smallS, List.getD_eq_getElem?_getD, List.getElem?_eq_getElem hl]
theorem strOf_bytes (s : ByteArray) : strOfNums (bytesOf s) = s := by
  obtain ⟨⟨l⟩⟩ := s
  unfold strOfNums bytesOf
  rw [List.map_map]
  have e : (fun n : Int => UInt8.ofNat n.toNat) ∘ (fun b : UInt8 => (b.toNat : Int)) = id := by
    funext b
    simp
  rw [e, List.map_id]

set_option maxHeartbeats 2000000 in
set_option maxRecDepth 100000 in
theorem small_calls (s : ByteArray) (w : World) (hs : s.size ≤ 65536) :
    Calls Tryz.prog 131 #[.string s] w fun e w' => e = .returned (.string (smallS s)) ∧ Below w.heap.size w w' := by
  go_enter Tryz.func131, Tryz.ntmps131
  go_wp2_with fail
  rw [Lib.run_convert_string_bytes w 9 44 5 s Tryz.underlying9 Tryz.underlying44 Tryz.underlying5]
  simp only [Result.andThen]
  rw [Oper.upon_value]
  have HS := Lib.hid (smAt0 s w 5)
  have HB := Lib.hid (bytesWorld_below w 5 s)
  generalize Lib.bytesWorld w 5 s = w1 at *
  generalize grownCap w s.size 0 5 = cap at *
  generalize hg : w.heap.size = g at *
  go_wp2_with fail
  go_loopw [10, 4, 5] (fun v10 v4 v5 wz => ∃ i : Nat, v10 = .int .i64 i ∧ i ≤ s.size ∧ Hid (SmAt s g i wz) ∧ Hid (Below g w wz)) (fun v10 v4 v5 wz => s.size - (intOf v10).toNat)
  case atStart => exact ⟨0, rfl, Nat.zero_le _, HS, HB⟩
  case round =>
    obtain ⟨i, rfl, hi, hS, hB⟩ := hrel
    by_cases hlt : i < s.size
    · have c0 := (hS.out i hlt).1
      have f0 := (hS.out i hlt).2
      have hsm : smI s i i = ((s.data.toList.getD i 0).toNat : Int) := by unfold smI; rw [if_neg (by omega)]
      rw [hsm] at c0
      have HP := fun (z : Int) hz => hS.out.put hlt (z := z) hz
      have HQ := hS.out.same
      have hb : (s.data.toList.getD i 0).toNat < 256 := UInt8.toNat_lt _
      have LO := smallB_lo (s.data.toList.getD i 0)
      have HI := smallB_hi (s.data.toList.getD i 0)
      generalize s.data.toList.getD i 0 = b at *
      go_wp2_with fail
      · have h1 := LO (by omega)
        exact ⟨⟨i + 1, by go_num, by omega, Lib.hid (HP _ (by omega)), Lib.hid (hB.out.setCell (Nat.le_refl _) _)⟩, by simp [intOf]; omega⟩
      · exact ⟨⟨i + 1, by go_num, by omega, Lib.hid (HQ (HI (by omega))), hB⟩, by simp [intOf]; omega⟩
      · exact ⟨⟨i + 1, by go_num, by omega, Lib.hid (HQ (HI (by omega))), hB⟩, by simp [intOf]; omega⟩
    · obtain rfl : i = s.size := by omega
      go_wp2_with fail
      have hC := smAt_reads hS.out hs
      have hl : (bytesOf (smallS s)).length = s.size := Kd.C_len hC
      rw [Kd.C_string Tryz.underlying44 Tryz.underlying5 Tryz.underlying9 hC, strOf_bytes]
      simp only [Result.andThen]
      rw [Oper.upon_value]
      go_wp2_with fail
      go_ret
      exact ⟨rfl, by rw [hg]; exact hB.out⟩
end Go.Proofs.YtpfhgolamlnhiaaGreatDoor

set_option linter.unusedVariables false
set_option linter.unusedSimpArgs false
namespace Go.Proofs.YtpfhgolamlnhiaaGreatDoor
open Go.RowKit Go.Proofs.YtpfhgolamlnhiaaGreatDoorW.PrintWords Go.Proofs.YtpfhgolamlnhiaaGreatDoorW.PrintLast Go.Proofs.YtpfhgolamlnhiaaGreatDoor.XT Go.Proofs.YtpfhgolamlnhiaaGreatDoor.XQ

theorem rE : ∀ q, q ∈ (25 : Nat) :: (k25).E → q ≠ 109 := by decide
theorem stop_true {lb : Bool} {x : Nat} (h : lb = true ∨ x = 47 ∨ x = 33 ∨ x = 63) : (lb || (x == 47 || (x == 33 || x == 63))) = true := by
  rcases h with h | h | h | h <;> simp [h]
theorem stop_false {lb : Bool} {x : Nat} (h : ¬ lb = true) (h1 : ¬ x = 47) (h2 : ¬ x = 33) (h3 : ¬ x = 63) : ¬ (lb || (x == 47 || (x == 33 || x == 63))) = true := by
  simp [h, h1, h2, h3]
/-- A reader, what it has read being a row of the call's own (made behind w0). -/
structure Rdr (g : Nat) (s : ByteArray) (i : Nat) (acc : List TokD) (out : Value) (w0 w : World) : Prop where
  box : RdAt g s i out w
  row : Kd.R k25 25 w w0.heap.size (fun _ => True) out acc
  below : Below w0.heap.size w0 w
  g0 : w0.heap.size ≤ g
theorem Rdr.fr {g : Nat} {s : ByteArray} {i j : Nat} {acc : List TokD} {out : Value} {w0 w w' : World} (h : Rdr g s i acc out w0 w) (hb : RdAt g s j out w') (hf : Fr g w w') : Rdr g s j acc out w0 w' :=
  ⟨hb, Kd.R_mono (Kd.R_keep (Kd.R_types h.row h.box rE) hf.keep (fun _ hk => hk.2)) (fun _ _ => trivial), hf.below h.below h.g0 h.below.size, h.g0⟩
theorem Rdr.later {g : Nat} {s : ByteArray} {i : Nat} {acc : List TokD} {out : Value} {w0 w w' : World} (h : Rdr g s i acc out w0 w) (hb : Below w.heap.size w w') : Rdr g s i acc out w0 w' := h.fr (h.box.below hb) (Fr.of_below hb)
theorem Rdr.drewN {g : Nat} {s : ByteArray} {i : Nat} {acc : List TokD} {out : Value} {w0 w : World} (h : Rdr g s i acc out w0 w) (n : Nat) : Rdr g s i acc out w0 (w.drewN n) := h.later (pw_below_drewN (Below.refl _ _) n)
theorem Rdr.move {g : Nat} {s : ByteArray} {i : Nat} {acc : List TokD} {out : Value} {w0 w : World} (h : Rdr g s i acc out w0 w) (j : Nat) {z : Int} (hz : z = j) : Rdr g s j acc out w0 (w.setCell ⟨g, 1, none⟩ (.int .i64 z)) := h.fr (h.box.at_ j hz) ((Fr.refl g w).set 1 _)
set_option maxHeartbeats 4000000 in
set_option maxRecDepth 100000 in
theorem text_calls (g : Nat) (s d : ByteArray) (i k : Nat) (acc : List TokD) (out : Value) (w0 w : World) (h : Rdr g s i acc out w0 w) (hG : G2 w0) (hi : i < s.size) (hs : s.size ≤ 65536) (hl : acc.length < 65536)
    (hd : x_Decode.f k (s.extract i (textEnd s i)) false = some d) :
    Calls Tryz.prog 103 #[.pointer (some ⟨g, 0, none⟩)] w fun e w' => e = .returned (.int .i64 0) ∧ ∃ out', Rdr g s (textEnd s i) (acc ++ [⟨3, ⟨#[]⟩, [], false, d⟩]) out' w0 w' := by
  have c1 := h.box.cell1
  have f1 := h.box.frz 1
  have H := Lib.hid h
  have HG := Lib.hid hG
  have HT := textGo_le s (s.size + 1) (i + 1) (by omega)
  have HTe : Hid (textEnd s i = textGo s (s.size + 1) (i + 1)) := rfl
  rw [← HTe.out] at HT
  have HD := Lib.hid hd
  have HS := Lib.hid hs
  have HL := Lib.hid hl
  have hs9 : s.size ≤ 4611686018427387904 := by omega
  clear h hd hG hs hl
  generalize textEnd s i = T at *
  go_enter Tryz.func103, Tryz.ntmps103
  go_upto_block 0 with fail
  have hz : ((i : Int) + 1) = ((i + 1 : Nat) : Int) := by omega
  have h1 := H.out.box.at_ (i + 1) hz
  have fr1 : Fr g w (w.setCell ⟨g, 1, none⟩ (.int .i64 ((i : Int) + 1))) := (Fr.refl g w).set 1 _
  have H1 := Lib.hid (H.out.fr h1 fr1)
  clear H h1 fr1 c1 f1 hz
  generalize w.setCell ⟨g, 1, none⟩ (.int .i64 ((i : Int) + 1)) = w1 at *
  go_cut [4] from 16 to 79 (fun v4 wd => Hid (Rdr g s T acc out w0 wd))
  case first =>
    go_wp2_with fail
    go_loopg [4] (s.size + 1) (fun kq v4 wz => ∃ j : Nat, j ≤ s.size ∧ s.size - j < kq ∧ Hid (T = textGo s kq j) ∧ Hid (Rdr g s j acc out w0 wz))
    case atStart => exact ⟨i + 1, by omega, by omega, HTe, H1⟩
    case round =>
      obtain ⟨j, hj, hm, hT, hR⟩ := hrel
      cases gk with
      | zero => omega
      | succ k3 =>
        have c0 := hR.out.box.cell0
        have c1 := hR.out.box.cell1
        have f1 := hR.out.box.frz 1
        have hg := hT.out
        rw [textGo] at hg
        clear hT
        by_cases hlt : j < s.size
        · rw [if_pos hlt] at hg
          have hlt' : (j : Int) < (s.size : Int) := by omega
          have e1 : ((j : Int) + 1).toNat = j + 1 := by omega
          have hw : IntKind.i64.wrap ((j : Int) + 1) = (j : Int) + 1 := IntWalk.i64_in _ (by omega)
          by_cases hA : s[j].toNat = 60
          · have hA' : ((s[j].toNat : Int) != 60) = false := by rw [bne_eq_false_iff_eq]; omega
            by_cases hB : j + 1 = s.size
            · have hst : stopsAt s j = false := by unfold stopsAt; simp [hB]
              rw [hst, if_neg (by decide)] at hg
              have HN := Lib.hid hg
              have hB' : ((j : Int) + 1 == (s.size : Int)) = true := by rw [beq_iff_eq]; omega
              clear hg hst hA hB
              go_wp2_with fail
              go_quiet (fail)
              go_wp2
              go_quiet (fail)
              go_wp2
              go_roundg k3
              case measure => omega
              case rel => exact ⟨j + 1, by omega, by omega, HN, Lib.hid ((hR.out.drewN _).move (j + 1) (by omega))⟩
            · have hB' : ((j : Int) + 1 == (s.size : Int)) = false := by rw [beq_eq_false_iff_ne]; omega
              have hl2 : j + 1 < s.size := by omega
              have hl2' : (j : Int) + 1 < (s.size : Int) := by omega
              have h02 : (0 : Int) ≤ (j : Int) + 1 := by omega
              have hst : stopsAt s j = (letB s[j + 1].toNat || (s[j + 1].toNat == 47 || (s[j + 1].toNat == 33 || s[j + 1].toNat == 63))) := by
                unfold stopsAt
                rw [at_get s j hlt, at_get s (j + 1) hl2, hA, bne_iff_ne.2 hB]
                simp
              rw [hst] at hg
              have LC := fun (w : World) => token_letter.calls ((s[j + 1].toNat : Nat) : Int) (letB s[j + 1].toNat) w (letB_eq _)
              have HG2 := Lib.hid hg
              clear hg hst hA hB
              go_wp2_with fail
              go_quiet (fail)
              go_wp2
              go_quiet (fail)
              go_wp2
              go_quiet (fail)
              go_wp2_with (go_at_call 104; refine (LC _).mono ?_; rintro e w2 ⟨rfl, ⟨nd, rfl⟩⟩)
              · rename_i h
                go_meet
                case rel =>
                  have hg := HG2.out
                  rw [if_pos (stop_true (.inl h))] at hg
                  rw [hg]
                  first | exact Lib.hid (hR.out.drewN _) | exact Lib.hid ((hR.out.drewN _).drewN _)
              · rename_i h
                go_meet
                case rel =>
                  have hg := HG2.out
                  rw [if_pos (stop_true (.inr (.inl (by omega))))] at hg
                  rw [hg]
                  first | exact Lib.hid (hR.out.drewN _) | exact Lib.hid ((hR.out.drewN _).drewN _)
              · rename_i h
                go_meet
                case rel =>
                  have hg := HG2.out
                  rw [if_pos (stop_true (.inr (.inr (.inl (by omega)))))] at hg
                  rw [hg]
                  first | exact Lib.hid (hR.out.drewN _) | exact Lib.hid ((hR.out.drewN _).drewN _)
              · rename_i h3 h2 h1 h
                simp only [beq_iff_eq] at h
                go_meet
                case rel =>
                  have hg := HG2.out
                  rw [if_pos (stop_true (.inr (.inr (.inr (by omega)))))] at hg
                  rw [hg]
                  first | exact Lib.hid (hR.out.drewN _) | exact Lib.hid ((hR.out.drewN _).drewN _)
              · rename_i h3 h2 h1 h
                simp only [beq_eq_false_iff_ne] at h
                have hg := HG2.out
                rw [if_neg (stop_false h3 (by omega) (by omega) (by omega))] at hg
                have HN := Lib.hid hg
                clear hg
                go_roundg k3
                case measure => omega
                case rel => exact ⟨j + 1, by omega, by omega, HN, Lib.hid (by first | exact (hR.out.drewN _).move (j + 1) (by omega) | exact ((hR.out.drewN _).drewN _).move (j + 1) (by omega))⟩
          · have hA' : ((s[j].toNat : Int) != 60) = true := by rw [bne_iff_ne]; omega
            have hst : stopsAt s j = false := by unfold stopsAt; rw [at_get s j hlt, beq_eq_false_iff_ne.2 hA]; rfl
            rw [hst, if_neg (by decide)] at hg
            have HN := Lib.hid hg
            clear hg hst hA
            go_wp2_with fail
            go_quiet (fail)
            go_wp2
            go_quiet (fail)
            go_wp2
            go_roundg k3
            case measure => omega
            case rel => exact ⟨j + 1, by omega, by omega, HN, Lib.hid ((hR.out.drewN _).move (j + 1) (by omega))⟩
        · rw [if_neg hlt] at hg
          have hlt' : ¬ (j : Int) < (s.size : Int) := by omega
          subst hg
          go_wp2_with fail
          go_quiet (fail)
          go_wp2
          go_meet
          case rel => exact Lib.hid (hR.out.drewN _)
  case rest =>
    have c0 := hcut.out.box.cell0
    have c1 := hcut.out.box.cell1
    have c2 := hcut.out.box.cell2
    have f2 := hcut.out.box.frz 2
    have h0i : (i : Int) ≤ (T : Int) := by omega
    have h0s : (T : Int) ≤ (s.size : Int) := by omega
    have DC := fun (w : World) (hG : G2 w) => x_Decode.calls k (s.extract i T) false d w HD.out hG
    clear H1 HTe
    go_wp2_with fail
    have HGd : G2 wc.drew := HG.out.below hcut.out.below.drew
    have hcd := hcut.out.later (Below.refl _ wc).drew
    refine start_ (n := 22) (S := fun w' => w'.cell? ⟨g, 0, none⟩ = some (.string s) ∧ w'.cell? ⟨g, 1, none⟩ = some (.int .i64 T) ∧ w'.cell? ⟨g, 2, none⟩ = some out) (ds := [21]) #[false, false, false, false, false, false, false, false, false, false, false, false, false, false, false, false, false, false, false, false, false, false] (by kernel_rfl) rfl rfl ⟨hcd.box.cell0, hcd.box.cell1, hcd.box.cell2⟩ (fun hHeld => ?_)
    refine pure_ (i := 0) (N := some 80) (v := ?_) (a' := ?_) #[true, false, false, false, false, false, false, false, false, false, false, false, false, false, false, false, false, false, false, false, false, false] rfl rfl (by kernel_rfl) (fun _ _ _ h => h) (Or.inl ⟨by rfl, ?_⟩) ?_ ?_
    rotate_left
    · intro w'
      go_simp
      with_reducible rfl
    rotate_left
    · simp only [Act.put, List.setIfInBounds_toArray, List.set_cons_zero, List.set_cons_succ, i64_w, i32_w]
      rfl
    refine pure_ (i := 1) (N := some 81) (v := ?_) (a' := ?_) #[true, true, false, false, false, false, false, false, false, false, false, false, false, false, false, false, false, false, false, false, false, false] rfl rfl (by kernel_rfl) (fun _ _ _ h => h) (Or.inl ⟨by rfl, ?_⟩) ?_ ?_
    rotate_left
    · intro w'
      go_simp
      with_reducible rfl
    rotate_left
    · simp only [Act.put, List.setIfInBounds_toArray, List.set_cons_zero, List.set_cons_succ, i64_w, i32_w]
      rfl
    refine pure_ (i := 2) (N := some 82) (v := ?_) (a' := ?_) #[true, true, true, false, false, false, false, false, false, false, false, false, false, false, false, false, false, false, false, false, false, false] rfl rfl (by kernel_rfl) (fun _ _ _ h => h) (Or.inl ⟨by rfl, ?_⟩) ?_ ?_
    rotate_left
    · intro w'
      go_simp
      with_reducible rfl
    rotate_left
    · simp only [Act.put, List.setIfInBounds_toArray, List.set_cons_zero, List.set_cons_succ, i64_w, i32_w]
      rfl
    refine pure_ (i := 3) (N := some 83) (v := ?_) (a' := ?_) #[true, true, true, true, false, false, false, false, false, false, false, false, false, false, false, false, false, false, false, false, false, false] rfl rfl (by kernel_rfl) (fun _ _ _ h => h) (Or.inl ⟨by rfl, ?_⟩) ?_ ?_
    rotate_left
    · intro w'
      go_simp
      with_reducible rfl
    rotate_left
    · simp only [Act.put, List.setIfInBounds_toArray, List.set_cons_zero, List.set_cons_succ, i64_w, i32_w]
      rfl
    refine pure_ (i := 5) (N := some 85) (v := ?_) (a' := ?_) #[true, true, true, true, false, true, false, false, false, false, false, false, false, false, false, false, false, false, false, false, false, false] rfl rfl (by kernel_rfl) (fun _ _ _ h => h) (Or.inl ⟨by rfl, ?_⟩) ?_ ?_
    rotate_left
    · intro w'
      go_simp
      with_reducible rfl
    rotate_left
    · simp only [Act.put, List.setIfInBounds_toArray, List.set_cons_zero, List.set_cons_succ, i64_w, i32_w]
      rfl
    refine pure_ (i := 6) (N := some 86) (v := ?_) (a' := ?_) #[true, true, true, true, false, true, true, false, false, false, false, false, false, false, false, false, false, false, false, false, false, false] rfl rfl (by kernel_rfl) (fun _ _ _ h => h) (Or.inl ⟨by rfl, ?_⟩) ?_ ?_
    rotate_left
    · intro w'
      go_simp
      with_reducible rfl
    rotate_left
    · simp only [Act.put, List.setIfInBounds_toArray, List.set_cons_zero, List.set_cons_succ, i64_w, i32_w]
      rfl
    refine pure_ (i := 7) (N := some 87) (v := ?_) (a' := ?_) #[true, true, true, true, false, true, true, true, false, false, false, false, false, false, false, false, false, false, false, false, false, false] rfl rfl (by kernel_rfl) (fun _ _ _ h => h) (Or.inl ⟨by rfl, ?_⟩) ?_ ?_
    rotate_left
    · intro w'
      go_simp
      with_reducible rfl
    rotate_left
    · simp only [Act.put, List.setIfInBounds_toArray, List.set_cons_zero, List.set_cons_succ, i64_w, i32_w]
      rfl
    refine pure_ (i := 9) (N := some 89) (v := ?_) (a' := ?_) #[true, true, true, true, false, true, true, true, false, true, false, false, false, false, false, false, false, false, false, false, false, false] rfl rfl (by kernel_rfl) (fun _ _ _ h => h) (Or.inl ⟨by rfl, ?_⟩) ?_ ?_
    rotate_left
    · intro w'
      go_simp
      with_reducible rfl
    rotate_left
    · simp only [Act.put, List.setIfInBounds_toArray, List.set_cons_zero, List.set_cons_succ, i64_w, i32_w]
      rfl
    refine pure_ (i := 10) (N := some 90) (v := ?_) (a' := ?_) #[true, true, true, true, false, true, true, true, false, true, true, false, false, false, false, false, false, false, false, false, false, false] rfl rfl (by kernel_rfl) (fun _ _ _ h => h) (Or.inl ⟨by rfl, ?_⟩) ?_ ?_
    rotate_left
    · intro w'
      go_simp
      with_reducible rfl
    rotate_left
    · simp only [Act.put, List.setIfInBounds_toArray, List.set_cons_zero, List.set_cons_succ, i64_w, i32_w]
      rfl
    refine pure_ (i := 11) (N := some 91) (v := ?_) (a' := ?_) #[true, true, true, true, false, true, true, true, false, true, true, true, false, false, false, false, false, false, false, false, false, false] rfl rfl (by kernel_rfl) (fun _ _ _ h => h) (Or.inl ⟨by rfl, ?_⟩) ?_ ?_
    rotate_left
    · intro w'
      go_simp
      with_reducible rfl
    rotate_left
    · simp only [Act.put, List.setIfInBounds_toArray, List.set_cons_zero, List.set_cons_succ, i64_w, i32_w]
      rfl
    refine pure_ (i := 12) (N := some 92) (v := ?_) (a' := ?_) #[true, true, true, true, false, true, true, true, false, true, true, true, true, false, false, false, false, false, false, false, false, false] rfl rfl (by kernel_rfl) (fun _ _ _ h => h) (Or.inl ⟨by rfl, ?_⟩) ?_ ?_
    rotate_left
    · intro w'
      go_simp
      with_reducible rfl
    rotate_left
    · simp only [Act.put, List.setIfInBounds_toArray, List.set_cons_zero, List.set_cons_succ, i64_w, i32_w]
      rfl
    refine take_ (i := 4) (N := some 84) (v := ?_) (a' := ?_) #[true, true, true, true, true, true, true, true, false, true, true, true, true, false, false, false, false, false, false, false, false, false] rfl rfl (by kernel_rfl) (fun _ _ _ h => h) (Or.inl ⟨by rfl, ?_⟩) hHeld ?_ ?_
    rotate_left
    · rintro w' ⟨s0, s1, s2⟩
      go_simp
      with_reducible rfl
    rotate_left
    · simp only [Act.put, List.setIfInBounds_toArray, List.set_cons_zero, List.set_cons_succ, i64_w, i32_w]
      rfl
    refine take_ (i := 8) (N := some 88) (v := ?_) (a' := ?_) #[true, true, true, true, true, true, true, true, true, true, true, true, true, false, false, false, false, false, false, false, false, false] rfl rfl (by kernel_rfl) (fun _ _ _ h => h) (Or.inl ⟨by rfl, ?_⟩) hHeld ?_ ?_
    rotate_left
    · rintro w' ⟨s0, s1, s2⟩
      go_simp
      with_reducible rfl
    rotate_left
    · simp only [Act.put, List.setIfInBounds_toArray, List.set_cons_zero, List.set_cons_succ, i64_w, i32_w]
      rfl
    refine take_ (i := 13) (N := some 93) (v := ?_) (a' := ?_) #[true, true, true, true, true, true, true, true, true, true, true, true, true, true, false, false, false, false, false, false, false, false] rfl rfl (by kernel_rfl) (fun _ _ _ h => h) (Or.inl ⟨by rfl, ?_⟩) hHeld ?_ ?_
    rotate_left
    · rintro w' ⟨s0, s1, s2⟩
      go_simp
      with_reducible rfl
    rotate_left
    · simp only [Act.put, List.setIfInBounds_toArray, List.set_cons_zero, List.set_cons_succ, i64_w, i32_w]
      rfl
    refine pure_ (i := 14) (N := some 94) (v := ?_) (a' := ?_) #[true, true, true, true, true, true, true, true, true, true, true, true, true, true, true, false, false, false, false, false, false, false] rfl rfl (by kernel_rfl) (fun _ _ _ h => h) (Or.inl ⟨by rfl, ?_⟩) ?_ ?_
    rotate_left
    · intro w'
      go_simp
      with_reducible rfl
    rotate_left
    · simp only [Act.put, List.setIfInBounds_toArray, List.set_cons_zero, List.set_cons_succ, i64_w, i32_w]
      rfl
    refine one_ (i := 15) (N := some 95) #[true, true, true, true, true, true, true, true, true, true, true, true, true, true, true, true, false, false, false, false, false, false] rfl rfl (by kernel_rfl) (by decide) (fun K hK => ?_)
    refine goes_ Tryz.func125 (by kernel_rfl) rfl #[.string (s.extract i T), .bool false] (by rfl) rfl rfl (by simp only [List.map_toArray, List.map_cons, List.map_nil]; rfl) ?_
    with_reducible refine (DC _ HGd).mono ?_
    rintro e w2 ⟨rfl, hb2⟩
    refine ⟨_, rfl, ?_⟩
    have hR2 := hcd.later hb2
    refine hK.out _ _ ⟨hR2.box.cell0, hR2.box.cell1, hR2.box.cell2⟩ (fun hHeld => ?_)
    clear hK K
    refine norm_ (a' := ?_) ?_ ?_
    rotate_left
    · show Act.put _ (some 95) _ = _
      simp only [Act.put, List.setIfInBounds_toArray, List.set_cons_zero, List.set_cons_succ, i64_w, i32_w]
      rfl
    refine pure_ (i := 16) (N := some 96) (v := ?_) (a' := ?_) #[true, true, true, true, true, true, true, true, true, true, true, true, true, true, true, true, true, false, false, false, false, false] rfl rfl (by kernel_rfl) (fun _ _ _ h => h) (Or.inl ⟨by rfl, ?_⟩) ?_ ?_
    rotate_left
    · intro w'
      go_simp
      with_reducible rfl
    rotate_left
    · simp only [Act.put, List.setIfInBounds_toArray, List.set_cons_zero, List.set_cons_succ, i64_w, i32_w]
      rfl
    refine one_ (i := 17) (N := some 97) #[true, true, true, true, true, true, true, true, true, true, true, true, true, true, true, true, true, true, false, false, false, false] rfl rfl (by kernel_rfl) (by decide) (fun K hK => ?_)
    refine value_ (w1 := ?_) (v := ?_) (by rfl) rfl ?_ ?_
    rotate_left 2
    · go_simp
      constructor
      · rfl
      · rfl
    refine hK.out _ _ ⟨(hR2.later (below_alloc (Below.refl _ _) _)).box.cell0, (hR2.later (below_alloc (Below.refl _ _) _)).box.cell1, (hR2.later (below_alloc (Below.refl _ _) _)).box.cell2⟩ (fun hHeld => ?_)
    clear hK K
    refine norm_ (a' := ?_) ?_ ?_
    rotate_left
    · show Act.put _ (some 97) _ = _
      simp only [Act.put, List.setIfInBounds_toArray, List.set_cons_zero, List.set_cons_succ, i64_w, i32_w]
      rfl
    refine one_ (i := 18) (N := some 98) #[true, true, true, true, true, true, true, true, true, true, true, true, true, true, true, true, true, true, true, false, false, false] rfl rfl (by kernel_rfl) (by decide) (fun K hK => ?_)
    refine Kd.R_append_step k25 w0.heap.size rfl (.tmp 84) (.tmp 97) 22 25 (.agg #[(.int .u8 0), (.string ⟨#[]⟩), (.slice none 0 0), (.bool false), (.string ⟨#[]⟩)]) 72 rfl Tryz.underlying22 info25 rfl (by decide) (by decide) out acc ⟨3, ⟨#[]⟩, [], false, d⟩ [.int .u8 3, .string ⟨#[]⟩, .slice none 0 0, .bool false, .string d] (fun _ => True) (fun _ => False) rfl rfl (k25_mkM _ _ _ ⟨3, ⟨#[]⟩, [], false, d⟩ (Kd.R_nil _ _ _ _ _)) (fun _ hk => hk.elim) (fun _ _ => trivial) hR2.row hR2.below hR2.below.size (by have := HL.out; omega) ?_
    intro v1 w3 ho3 hb3 hg3 hat3
    obtain ⟨A1, q1, rfl⟩ := Kd.R_slice ho3
    rw [List.length_append, List.length_singleton] at ho3
    rw [List.length_append, List.length_singleton]
    have hB3 : RdAt g s T out w3 := blk_grown hR2.box hg3 (Kd.R_ne hR2.row hR2.box (by decide))
    have d3 := hB3.cell2
    have g3 := hB3.frz 2
    refine hK.out _ _ ⟨hB3.cell0, hB3.cell1, hB3.cell2⟩ (fun hHeld => ?_)
    clear hK K
    refine norm_ (a' := ?_) ?_ ?_
    rotate_left
    · show Act.put _ (some 98) _ = _
      simp only [Act.put, List.setIfInBounds_toArray, List.set_cons_zero, List.set_cons_succ, i64_w, i32_w]
      rfl
    refine pure_ (i := 19) (N := some 99) (v := ?_) (a' := ?_) #[true, true, true, true, true, true, true, true, true, true, true, true, true, true, true, true, true, true, true, true, false, false] rfl rfl (by kernel_rfl) (fun _ _ _ h => h) (Or.inl ⟨by rfl, ?_⟩) ?_ ?_
    rotate_left
    · intro w'
      go_simp
      with_reducible rfl
    rotate_left
    · simp only [Act.put, List.setIfInBounds_toArray, List.set_cons_zero, List.set_cons_succ, i64_w, i32_w]
      rfl
    refine pure_ (i := 20) (N := some 100) (v := ?_) (a' := ?_) #[true, true, true, true, true, true, true, true, true, true, true, true, true, true, true, true, true, true, true, true, true, false] rfl rfl (by kernel_rfl) (fun _ _ _ h => h) (Or.inl ⟨by rfl, ?_⟩) ?_ ?_
    rotate_left
    · intro w'
      go_simp
      with_reducible rfl
    rotate_left
    · simp only [Act.put, List.setIfInBounds_toArray, List.set_cons_zero, List.set_cons_succ, i64_w, i32_w]
      rfl
    refine last_ (i := 21) (N := none) #[true, true, true, true, true, true, true, true, true, true, true, true, true, true, true, true, true, true, true, true, true, true] rfl rfl (by kernel_rfl) (by decide) (fun K hK => ?_)
    refine skip_ (w1 := ?_) (by rfl) rfl ?_ ?_
    rotate_left
    · go_simp
      rfl
    refine hK.out _ _ ?_
    clear hK K
    refine done_ (by kernel_rfl) ?_
    go_wp2
    go_ret
    refine ⟨rfl, _, blk_put hB3 2 _ rfl, Kd.R_set ho3 hB3 rE 2 _, hb3.setCell hcut.out.g0 _, hcut.out.g0⟩
end Go.Proofs.YtpfhgolamlnhiaaGreatDoor
