/- token.reader.attr: an attribute. -/
import Derived.Test.YtpfhgolamlnhiaaGreatDoorTokT
import Derived.Test.YtpfhgolamlnhiaaGreatDoorIdx
set_option linter.unusedVariables false
set_option linter.unusedSimpArgs false
namespace Go.Proofs.YtpfhgolamlnhiaaGreatDoor
open Go.RowKit Go.Proofs.YtpfhgolamlnhiaaGreatDoorW.PrintWords Go.Proofs.YtpfhgolamlnhiaaGreatDoorW.PrintLast Go.Proofs.YtpfhgolamlnhiaaGreatDoor.XT Go.Proofs.YtpfhgolamlnhiaaGreatDoor.XQ

theorem hasAt_le {s : ByteArray} {i : Nat} {p : List UInt8} (h : hasAt s i p = true) : p.length + i ≤ s.size ∨ p = [] := by
  unfold hasAt Lib.hasPrefix at h
  have h2 := List.IsPrefix.length_le (List.isPrefixOf_iff_prefix.1 h)
  rw [List.length_drop, Sv.size_list] at h2
  rcases p with _ | ⟨a, p⟩
  · exact .inr rfl
  · left
    rw [List.length_cons] at h2 ⊢
    omega
/-- A reader in the midst of an attribute: the answer lies in block ra, the attribute in block ab. -/
structure RdA (g ra ab : Nat) (s : ByteArray) (i : Nat) (out : Value) (name val : ByteArray) (we w : World) : Prop where
  box : RdAt g s i out w
  res : w.heap[ra]? = some (.cells #[.string ⟨#[]⟩, .string ⟨#[]⟩] 40 (0, 0))
  tk : w.heap[ab]? = some (.cells #[.string name, .string val] 40 (0, 0))
  fr : Fr g we w
  nr : ra ≠ g
  na : ab ≠ g
  ne : ab ≠ ra
  new : we.heap.size ≤ ra
  new2 : we.heap.size ≤ ab
section
variable {g ra ab : Nat} {s : ByteArray} {i j : Nat} {out : Value} {name val : ByteArray} {we w w' : World}
theorem RdA.step (h : RdA g ra ab s i out name val we w) (hb : RdAt g s j out w') (hf : Fr g w w') : RdA g ra ab s j out name val we w' :=
  ⟨hb, (hf.block ra (blk_lt h.res) h.nr).trans h.res, (hf.block ab (blk_lt h.tk) h.na).trans h.tk, h.fr.trans hf, h.nr, h.na, h.ne, h.new, h.new2⟩
theorem RdA.later (h : RdA g ra ab s i out name val we w) (hb : Below w.heap.size w w') : RdA g ra ab s i out name val we w' := h.step (h.box.below hb) (Fr.of_below hb)
theorem RdA.move (h : RdA g ra ab s i out name val we w) (j : Nat) {z : Int} (hz : z = j) : RdA g ra ab s j out name val we (w.setCell ⟨g, 1, none⟩ (.int .i64 z)) := h.step (h.box.at_ j hz) ((Fr.refl g w).set 1 _)
theorem Fr.setNew {g b : Nat} {a c : World} (h : Fr g a c) (hb : a.heap.size ≤ b) (i : Nat) (u : Value) : Fr g a (c.setCell ⟨b, i, none⟩ u) := by
  have hb2 := (Below.refl b c).setCell (p := ⟨b, i, none⟩) (Nat.le_refl _) u
  exact ⟨hb2.os.trans h.os, hb2.tape.trans h.tape, hb2.output.trans h.output, Nat.le_trans h.size hb2.size, fun k hk hg => (Below.heap_setCell c ⟨b, i, none⟩ u k (by show k ≠ b; omega)).trans (h.block k hk hg)⟩
theorem RdA.put (h : RdA g ra ab s i out name val we w) (v : ByteArray) : RdA g ra ab s i out name v we (w.setCell ⟨ab, 1, none⟩ (.string v)) :=
  ⟨blk_far h.box (Ne.symm h.na) _, blk_far h.res (Ne.symm h.ne) _, blk_put h.tk 1 _ rfl, h.fr.setNew h.new2 1 _, h.nr, h.na, h.ne, h.new, h.new2⟩
theorem RdA.start (h : RdAt g s i out w) {w1 w2 : World} (hb1 : RdAt g s j out w1) (hf1 : Fr g (w.alloc (.cells #[.string ⟨#[]⟩, .string ⟨#[]⟩] 40)) w1) (hb2 : Below w1.heap.size w1 w2) (name : ByteArray) :
    RdA g w.heap.size w2.heap.size s j out name ⟨#[]⟩ w (w2.alloc (.cells #[.string name, .string ⟨#[]⟩] 40)) := by
  have hlt : g < w.heap.size := blk_lt h
  have hz : w.heap.size < w1.heap.size := Nat.lt_of_lt_of_le (blk_lt (blk_new w _)) hf1.size
  have hz2 : w.heap.size < w2.heap.size := Nat.lt_of_lt_of_le hz hb2.size
  have r1 : w1.heap[w.heap.size]? = some (.cells #[.string ⟨#[]⟩, .string ⟨#[]⟩] 40 (0, 0)) := (hf1.block _ (blk_lt (blk_new w _)) (by omega)).trans (blk_new w _)
  have hf : Fr g w w2 := ((Fr.of_below (below_alloc (Below.refl _ _) _)).trans hf1).trans (Fr.of_below hb2)
  refine ⟨blk_alloc (hb1.below hb2) _, blk_alloc ((hb2.block _ (blk_lt r1)).trans r1) _, blk_new _ _, hf.trans (Fr.of_below (below_alloc (Below.refl _ _) _)), by omega, by omega, by omega, Nat.le_refl _, by omega⟩
theorem RdA.rcell (h : RdA g ra ab s i out name val we w) (j : Nat) : w.cell? ⟨ra, j, none⟩ = (#[.string ⟨#[]⟩, .string ⟨#[]⟩] : Array Value)[j]? := blk_cell h.res j
theorem RdA.tcell (h : RdA g ra ab s i out name val we w) (j : Nat) : w.cell? ⟨ab, j, none⟩ = (#[.string name, .string val] : Array Value)[j]? := blk_cell h.tk j
/-- The answer, written. -/
theorem RdA.done (h : RdA g ra ab s i out name val we w) : ((w.setCell ⟨ra, 0, none⟩ (.string name)).setCell ⟨ra, 1, none⟩ (.string val)).heap[ra]? = some (.cells #[.string name, .string val] 40 (0, 0)) ∧ RdAt g s i out ((w.setCell ⟨ra, 0, none⟩ (.string name)).setCell ⟨ra, 1, none⟩ (.string val)) ∧ Fr g we ((w.setCell ⟨ra, 0, none⟩ (.string name)).setCell ⟨ra, 1, none⟩ (.string val)) :=
  ⟨blk_put (blk_put h.res 0 _ rfl) 1 _ rfl, blk_far (blk_far h.box (Ne.symm h.nr) _) (Ne.symm h.nr) _, (h.fr.setNew h.new 0 _).setNew h.new 1 _⟩
end
set_option maxHeartbeats 8000000 in
set_option maxRecDepth 100000 in
theorem attr_calls (g : Nat) (s : ByteArray) (i k : Nat) (out : Value) (r : Int × Nat × AttrD) (w0 w : World) (h : RdAt g s i out w) (hG : G2 w0) (hb0 : Below w0.heap.size w0 w) (g0 : w0.heap.size ≤ g) (hi : i ≤ s.size) (hs : s.size ≤ 65536)
    (hr : attrK k s i = some r) :
    Calls Tryz.prog 148 #[.pointer (some ⟨g, 0, none⟩)] w fun e w' => e = .returned (.tuple #[.agg #[.string r.2.2.f0, .string r.2.2.f1], .int .i64 r.1]) ∧ RdAt g s r.2.1 out w' ∧ Fr g w w' := by
  have H := Lib.hid h
  have HS := Lib.hid hs
  have hs9 : s.size ≤ 4611686018427387904 := by omega
  have HG : ∀ wz, Fr g w wz → G2 wz := fun wz hf => hG.below (hf.below hb0 g0 hb0.size)
  have HG := Lib.hid HG
  unfold attrK at hr
  dsimp only at hr
  rw [show attrStops = (⟨#[9, 10, 12, 32, 61, 47, 62]⟩ : ByteArray) from rfl, show attrOthers = (⟨#[45, 95]⟩ : ByteArray) from rfl] at hr
  obtain ⟨m, hm, hr⟩ := Option.bind_eq_some_iff.1 hr
  have hxs : (s.extract i s.size).size = s.size - i := by rw [ByteArray.size_extract]; omega
  have hn := uptoGo_le (⟨#[9, 10, 12, 32, 61, 47, 62]⟩ : ByteArray).data.toList (s.extract i s.size) ((s.extract i s.size).size + 1) 0 (by omega)
  change _ ∧ uptoN (⟨#[9, 10, 12, 32, 61, 47, 62]⟩ : ByteArray).data.toList (s.extract i s.size) ≤ _ at hn
  have UC := fun (w1 : World) (h1 : RdAt g s i out w1) => upto_calls g s i out ⟨#[9, 10, 12, 32, 61, 47, 62]⟩ w1 h1 hi hs9
  have hns : ((s.extract i s.size).extract 0 (uptoN (⟨#[9, 10, 12, 32, 61, 47, 62]⟩ : ByteArray).data.toList (s.extract i s.size))).size ≤ 65536 := by rw [ByteArray.size_extract]; omega
  generalize uptoN (⟨#[9, 10, 12, 32, 61, 47, 62]⟩ : ByteArray).data.toList (s.extract i s.size) = n at *
  generalize (s.extract i s.size).extract 0 n = nm at *
  generalize hname : smallS nm = name at *
  have SC := fun (w1 : World) => small_calls nm w1 hns
  rw [hname] at SC
  have MC := fun (w1 : World) => token_made.calls k name ⟨#[45, 95]⟩ m w1 hm
  have hHa : RdAt g s i out (w.alloc (.cells #[.string ⟨#[]⟩, .string ⟨#[]⟩] 40)) := blk_alloc h _
  have HA := Lib.hid hHa
  clear hm h hs hG hb0 g0 hHa
  go_enter Tryz.func148, Tryz.ntmps148
  go_wp2_with (first | (go_at_call 132; refine (UC _ HA.out).mono ?_; rintro e w1 ⟨rfl, hb1, hf1⟩) | (go_at_call 131; refine (SC _).mono ?_; rintro e w2 ⟨rfl, hb2⟩))
  refine (MC _).mono ?_
  rintro e w3 ⟨rfl, hd3⟩
  dsimp only
  have HT := Lib.hid ((RdA.start H.out hb1 hf1 hb2 name).later hd3.below)
  clear hb1 hf1 hb2 hd3 UC SC MC H HA
  generalize w2.heap.size = ab at *
  have hab : ab ≠ w.heap.size := HT.out.ne
  generalize hra : w.heap.size = ra at *
  clear hra
  have hra' : ¬ ra = ab := Ne.symm hab
  cases m
  · rw [if_pos rfl] at hr
    obtain rfl := Option.some.inj hr
    clear hr
    have t0 : w3.cell? ⟨ab, 0, none⟩ = some (.string name) := HT.out.tcell 0; have t1 : w3.cell? ⟨ab, 1, none⟩ = some (.string ⟨#[]⟩) := HT.out.tcell 1; have r0 : w3.cell? ⟨ra, 0, none⟩ = some (.string ⟨#[]⟩) := HT.out.rcell 0; have r1 : w3.cell? ⟨ra, 1, none⟩ = some (.string ⟨#[]⟩) := HT.out.rcell 1; have z0 := blk_frozen HT.out.res 0; have z1 := blk_frozen HT.out.res 1
    go_wp2_with fail
    obtain ⟨d1, d2, d3⟩ := HT.out.done
    have e0 := blk_cell d1 0
    have e1 := blk_cell d1 1
    exact bodyPost_ret (v := .tuple #[.agg #[.string name, .string ⟨#[]⟩], .int .i64 41]) (by simp [results, Tryz.results148, go_sem, e0, e1]) rfl ⟨rfl, d2, d3⟩
  · rw [if_neg (by decide)] at hr
    have hj : skipTo s (i + n) ≤ s.size := by unfold skipTo; omega
    have KC : ∀ w1, RdAt g s (i + n) out w1 → Calls Tryz.prog 146 #[.pointer (some ⟨g, 0, none⟩)] w1 fun e w' => e = .returned (.tuple #[]) ∧ RdAt g s (skipTo s (i + n)) out w' ∧ Fr g w1 w' := fun w1 h1 => skip_calls g s (i + n) out w1 h1 (by omega) hs9
    generalize skipTo s (i + n) = j at *
    have HC1 : ∀ w1, RdAt g s j out w1 → Calls Tryz.prog 147 #[.pointer (some ⟨g, 0, none⟩), .string ⟨#[61]⟩] w1 fun e w' => e = .returned (.bool (hasAt s j [61])) ∧ Drawn0 w1 w' := fun w1 h1 => has_calls g s j out ⟨#[61]⟩ w1 h1 hj
    have L1 : hasAt s j [61] = true → 1 + j ≤ s.size := fun h => (hasAt_le h).resolve_right (by simp)
    generalize hasAt s j [61] = b1 at *
    cases b1
    · rw [if_pos rfl] at hr
      obtain rfl := Option.some.inj hr
      clear hr L1
      go_wp2_with (first | (go_at_call 146; refine (KC _ HT.out.box).mono ?_; rintro e w4 ⟨rfl, hb4, hf4⟩; have HT4 := Lib.hid (HT.out.step hb4 hf4)) | (go_at_call 147; refine (HC1 _ hb4).mono ?_; rintro e w5 ⟨rfl, hd5⟩; have HT5 := Lib.hid (HT4.out.later hd5.below); have t0 : w5.cell? ⟨ab, 0, none⟩ = some (.string name) := HT5.out.tcell 0; have t1 : w5.cell? ⟨ab, 1, none⟩ = some (.string ⟨#[]⟩) := HT5.out.tcell 1; have r0 : w5.cell? ⟨ra, 0, none⟩ = some (.string ⟨#[]⟩) := HT5.out.rcell 0; have r1 : w5.cell? ⟨ra, 1, none⟩ = some (.string ⟨#[]⟩) := HT5.out.rcell 1; have q0 := blk_frozen HT5.out.res 0; have q1 := blk_frozen HT5.out.res 1))
      obtain ⟨d1, d2, d3⟩ := HT5.out.done
      have e0 := blk_cell d1 0
      have e1 := blk_cell d1 1
      exact bodyPost_ret (v := .tuple #[.agg #[.string name, .string ⟨#[]⟩], .int .i64 0]) (by simp [results, Tryz.results148, go_sem, e0, e1]) rfl ⟨rfl, d2, d3⟩
    · rw [if_neg (by decide)] at hr
      have hj1 := L1 rfl
      clear L1
      have hj2 : skipTo s (j + 1) ≤ s.size := by unfold skipTo; omega
      have KC2 : ∀ w1, RdAt g s (j + 1) out w1 → Calls Tryz.prog 146 #[.pointer (some ⟨g, 0, none⟩)] w1 fun e w' => e = .returned (.tuple #[]) ∧ RdAt g s (skipTo s (j + 1)) out w' ∧ Fr g w1 w' := fun w1 h1 => skip_calls g s (j + 1) out w1 h1 (by omega) hs9
      generalize skipTo s (j + 1) = l at *
      have HC2 : ∀ w1, RdAt g s l out w1 → Calls Tryz.prog 147 #[.pointer (some ⟨g, 0, none⟩), .string ⟨#[34]⟩] w1 fun e w' => e = .returned (.bool (hasAt s l [34])) ∧ Drawn0 w1 w' := fun w1 h1 => has_calls g s l out ⟨#[34]⟩ w1 h1 hj2
      have HC3 : ∀ w1, RdAt g s l out w1 → Calls Tryz.prog 147 #[.pointer (some ⟨g, 0, none⟩), .string ⟨#[39]⟩] w1 fun e w' => e = .returned (.bool (hasAt s l [39])) ∧ Drawn0 w1 w' := fun w1 h1 => has_calls g s l out ⟨#[39]⟩ w1 h1 hj2
      have L2 : hasAt s l [34] = true → 1 + l ≤ s.size := fun h => (hasAt_le h).resolve_right (by simp)
      have L3 : hasAt s l [39] = true → 1 + l ≤ s.size := fun h => (hasAt_le h).resolve_right (by simp)
      generalize hasAt s l [34] = b2 at *
      generalize hasAt s l [39] = b3 at *
      have HR := Lib.hid hr
      clear hr
      go_upto_region 9 with (first | (go_at_call 146; refine (KC _ HT.out.box).mono ?_; rintro e w4 ⟨rfl, hb4, hf4⟩; have HT4 := Lib.hid (HT.out.step hb4 hf4)) | (go_at_call 147; refine (HC1 _ hb4).mono ?_; rintro e w5 ⟨rfl, hd5⟩; have HT5 := Lib.hid (HT4.out.later hd5.below); have k1 := HT5.out.box.cell1; have q1 := HT5.out.box.frz 1) | (go_at_call 146; refine (KC2 _ (HT5.out.box.at_ (j + 1) (z := (j : Int) + 1) (by omega))).mono ?_; rintro e w6 ⟨rfl, hb6, hf6⟩))
      have HT6 := Lib.hid ((HT5.out.move (j + 1) (z := (j : Int) + 1) (by omega)).step hb6 hf6)
      clear HT HT4 HT5 hb4 hf4 hd5 k1 q1 hb6 hf6 KC KC2 HC1
      go_cut [37] from 32 to 37 (fun v37 wd => v37 = .bool (b2 || b3) ∧ Hid (RdA g ra ab s l out name ⟨#[]⟩ w wd))
      case first =>
        cases b2
        · cases b3
          · go_wp2_with (first | (go_at_call 147; refine (HC2 _ HT6.out.box).mono ?_; rintro e w7 ⟨rfl, hd7⟩; have HT7 := Lib.hid (HT6.out.later hd7.below)) | (go_at_call 147; refine (HC3 _ HT7.out.box).mono ?_; rintro e w8 ⟨rfl, hd8⟩; have HT8 := Lib.hid (HT7.out.later hd8.below)))
            go_meet
            case rel => exact ⟨rfl, HT8⟩
          · go_wp2_with (first | (go_at_call 147; refine (HC2 _ HT6.out.box).mono ?_; rintro e w7 ⟨rfl, hd7⟩; have HT7 := Lib.hid (HT6.out.later hd7.below)) | (go_at_call 147; refine (HC3 _ HT7.out.box).mono ?_; rintro e w8 ⟨rfl, hd8⟩; have HT8 := Lib.hid (HT7.out.later hd8.below)))
            go_meet
            case rel => exact ⟨rfl, HT8⟩
        · go_wp2_with (go_at_call 147; refine (HC2 _ HT6.out.box).mono ?_; rintro e w7 ⟨rfl, hd7⟩; have HT7 := Lib.hid (HT6.out.later hd7.below))
          go_meet
          case rel => exact ⟨rfl, HT7⟩
      case rest =>
        obtain ⟨rfl, HT7⟩ := hcut
        clear HT6 HC2 HC3
        cases hq : (b2 || b3)
        · have hr := HR.out
          obtain ⟨rfl, rfl⟩ : b2 = false ∧ b3 = false := by revert hq; cases b2 <;> cases b3 <;> simp
          rw [if_neg (by decide), if_neg (by decide)] at hr
          clear L2 L3 HR hq
          unfold bareK at hr
          dsimp only at hr
          rw [show valStops = (⟨#[9, 10, 12, 32, 62]⟩ : ByteArray) from rfl] at hr
          have hx2 : (s.extract l s.size).size = s.size - l := by rw [ByteArray.size_extract]; omega
          have hn2 := uptoGo_le (⟨#[9, 10, 12, 32, 62]⟩ : ByteArray).data.toList (s.extract l s.size) ((s.extract l s.size).size + 1) 0 (by omega)
          change _ ∧ uptoN (⟨#[9, 10, 12, 32, 62]⟩ : ByteArray).data.toList (s.extract l s.size) ≤ _ at hn2
          have UC2 := fun (w1 : World) (h1 : RdAt g s l out w1) => upto_calls g s l out ⟨#[9, 10, 12, 32, 62]⟩ w1 h1 hj2 hs9
          have hvs : ((s.extract l s.size).extract 0 (uptoN (⟨#[9, 10, 12, 32, 62]⟩ : ByteArray).data.toList (s.extract l s.size))).size ≤ 65536 := by rw [ByteArray.size_extract]; have := HS.out; omega
          generalize uptoN (⟨#[9, 10, 12, 32, 62]⟩ : ByteArray).data.toList (s.extract l s.size) = n2 at *
          generalize (s.extract l s.size).extract 0 n2 = v at *
          have IC := fun (w1 : World) => idxAny_calls v w1 hvs
          by_cases hv : v.data.toList = []
          · rw [if_pos hv] at hr
            obtain rfl := Option.some.inj hr
            have hq : (v.toList == ([] : List UInt8)) = true := by rw [Lib.toList_data, hv]; rfl
            have hq2 : v.toList = [] := by rw [Lib.toList_data, hv]
            clear hr hv hvs hn2 hx2
            go_wp2_with (go_at_call 132; refine (UC2 _ HT7.out.box).mono ?_; rintro e w8 ⟨rfl, hb8, hf8⟩; have HT8 := Lib.hid (HT7.out.step hb8 hf8); have t0 : w8.cell? ⟨ab, 0, none⟩ = some (.string name) := HT8.out.tcell 0; have t1 : w8.cell? ⟨ab, 1, none⟩ = some (.string ⟨#[]⟩) := HT8.out.tcell 1; have r0 : w8.cell? ⟨ra, 0, none⟩ = some (.string ⟨#[]⟩) := HT8.out.rcell 0; have r1 : w8.cell? ⟨ra, 1, none⟩ = some (.string ⟨#[]⟩) := HT8.out.rcell 1; have z0 := blk_frozen HT8.out.res 0; have z1 := blk_frozen HT8.out.res 1)
            obtain ⟨d1, d2, d3⟩ := HT8.out.done
            have e0 := blk_cell d1 0
            have e1 := blk_cell d1 1
            exact bodyPost_ret (v := .tuple #[.agg #[.string name, .string ⟨#[]⟩], .int .i64 41]) (by simp [results, Tryz.results148, go_sem, e0, e1]) rfl ⟨rfl, d2, d3⟩
          · rw [if_neg hv] at hr
            have hq : (v.toList == ([] : List UInt8)) = false := by rw [Lib.toList_data, beq_eq_false_iff_ne]; exact hv
            generalize Lib.indexAny v.data.toList [34, 39, 60, 61, 96] = ix at *
            by_cases hx : 0 ≤ ix
            · rw [if_pos hx] at hr
              obtain rfl := Option.some.inj hr
              clear hr hv hvs hn2 hx2
              go_wp2_with (first | (go_at_call 132; refine (UC2 _ HT7.out.box).mono ?_; rintro e w8 ⟨rfl, hb8, hf8⟩; have HT8 := Lib.hid (HT7.out.step hb8 hf8)) | (go_at_call 170; refine (IC _).mono ?_; rintro e w9 ⟨rfl, hb9⟩; have HT9 := Lib.hid (HT8.out.later hb9); have t0 : w9.cell? ⟨ab, 0, none⟩ = some (.string name) := HT9.out.tcell 0; have t1 : w9.cell? ⟨ab, 1, none⟩ = some (.string ⟨#[]⟩) := HT9.out.tcell 1; have r0 : w9.cell? ⟨ra, 0, none⟩ = some (.string ⟨#[]⟩) := HT9.out.rcell 0; have r1 : w9.cell? ⟨ra, 1, none⟩ = some (.string ⟨#[]⟩) := HT9.out.rcell 1; have z0 := blk_frozen HT9.out.res 0; have z1 := blk_frozen HT9.out.res 1))
              obtain ⟨d1, d2, d3⟩ := HT9.out.done
              have e0 := blk_cell d1 0
              have e1 := blk_cell d1 1
              exact bodyPost_ret (v := .tuple #[.agg #[.string name, .string ⟨#[]⟩], .int .i64 41]) (by simp [results, Tryz.results148, go_sem, e0, e1]) rfl ⟨rfl, d2, d3⟩
            · rw [if_neg hx] at hr
              obtain ⟨d, hd, hr⟩ := Option.bind_eq_some_iff.1 hr
              obtain rfl := Option.some.inj hr
              have DC := fun (w1 : World) (hG : G2 w1) => x_Decode.calls k v true d w1 hd hG
              clear hr hv hvs hn2 hx2 hd
              go_wp2_with (first | (go_at_call 132; refine (UC2 _ HT7.out.box).mono ?_; rintro e w8 ⟨rfl, hb8, hf8⟩; have HT8 := Lib.hid (HT7.out.step hb8 hf8)) | (go_at_call 170; refine (IC _).mono ?_; rintro e w9 ⟨rfl, hb9⟩; have HT9 := Lib.hid (HT8.out.later hb9)) | (go_at_call 125; refine (DC _ (HG.out _ HT9.out.fr)).mono ?_; rintro e w10 ⟨rfl, hb10⟩; have HT10 := Lib.hid (HT9.out.later hb10); have t0 : w10.cell? ⟨ab, 0, none⟩ = some (.string name) := HT10.out.tcell 0; have t1 : w10.cell? ⟨ab, 1, none⟩ = some (.string ⟨#[]⟩) := HT10.out.tcell 1; have r0 : w10.cell? ⟨ra, 0, none⟩ = some (.string ⟨#[]⟩) := HT10.out.rcell 0; have r1 : w10.cell? ⟨ra, 1, none⟩ = some (.string ⟨#[]⟩) := HT10.out.rcell 1; have z0 := blk_frozen HT10.out.res 0; have z1 := blk_frozen HT10.out.res 1; have u1 := blk_frozen HT10.out.tk 1))
              have HTX := Lib.hid (HT10.out.put d)
              obtain ⟨d1, d2, d3⟩ := HTX.out.done
              have e0 := blk_cell d1 0
              have e1 := blk_cell d1 1
              exact bodyPost_ret (v := .tuple #[.agg #[.string name, .string d], .int .i64 0]) (by simp [results, Tryz.results148, go_sem, e0, e1]) rfl ⟨rfl, d2, d3⟩
        · have hl1 : 1 + l ≤ s.size := by
            revert hq
            cases b2
            · cases b3
              · intro hq; cases hq
              · intro _; exact L3 rfl
            · intro _; exact L2 rfl
          have hr : quotedK k s name l = some r := by
            have hr := HR.out
            revert hq
            cases b2
            · cases b3
              · intro hq; cases hq
              · intro _; rw [if_neg (by decide), if_pos rfl] at hr; exact hr
            · intro _; rw [if_pos rfl] at hr; exact hr
          clear L2 L3 HR hq
          unfold quotedK at hr
          dsimp only at hr
          have hx2 : (s.extract (l + 1) s.size).size = s.size - (l + 1) := by rw [ByteArray.size_extract]; omega
          have hn2 := uptoGo_le (s.extract l (l + 1)).data.toList (s.extract (l + 1) s.size) ((s.extract (l + 1) s.size).size + 1) 0 (by omega)
          change _ ∧ uptoN (s.extract l (l + 1)).data.toList (s.extract (l + 1) s.size) ≤ _ at hn2
          have UC2 := fun (w1 : World) (h1 : RdAt g s (l + 1) out w1) => upto_calls g s (l + 1) out (s.extract l (l + 1)) w1 h1 (by omega) hs9
          have c0 := HT7.out.box.cell0
          have c1 := HT7.out.box.cell1
          have hl0 : (l : Int) ≤ (l : Int) + 1 := by omega
          have hl2 : (l : Int) + 1 ≤ (s.size : Int) := by omega
          have e1 : ((l : Int) + 1).toNat = l + 1 := by omega
          have hw : IntKind.i64.wrap ((l : Int) + 1) = (l : Int) + 1 := IntWalk.i64_in _ (by have := HS.out; omega)
          generalize hN2 : uptoN (s.extract l (l + 1)).data.toList (s.extract (l + 1) s.size) = n2 at *
          generalize (s.extract (l + 1) s.size).extract 0 n2 = v at *
          go_wp2_with fail
          go_quiet (fail)
          have HT8 := Lib.hid (HT7.out.later (pw_below_drewN (Below.refl _ _) nq))
          generalize wc.drewN nq = w8 at *
          clear HT7 c0 c1 e1 hw
          have k1 := HT8.out.box.cell1
          have q1 := HT8.out.box.frz 1
          by_cases he : l + 1 + n2 = s.size
          · rw [if_pos he] at hr
            obtain rfl := Option.some.inj hr
            clear hr
            go_upto_region 13 with (go_at_call 132; refine (UC2 _ (HT8.out.box.at_ (l + 1) (z := (l : Int) + 1) (by omega))).mono ?_; rintro e w9 ⟨rfl, hb9, hf9⟩; have HT9 := Lib.hid ((HT8.out.move (l + 1) (z := (l : Int) + 1) (by omega)).step hb9 hf9); have c0 := HT9.out.box.cell0; have c1 := HT9.out.box.cell1)
            have hq : (((l + 1 + n2 : Nat) : Int) == (s.size : Int)) = true := by rw [beq_iff_eq]; omega
            clear he
            go_quiet (fail)
            have HT10 := Lib.hid (HT9.out.later (pw_below_drewN (Below.refl _ _) nq))
            generalize w9.drewN nq = w10 at *
            clear c0 c1 k1 q1
            have t0 : w10.cell? ⟨ab, 0, none⟩ = some (.string name) := HT10.out.tcell 0; have t1 : w10.cell? ⟨ab, 1, none⟩ = some (.string ⟨#[]⟩) := HT10.out.tcell 1; have r0 : w10.cell? ⟨ra, 0, none⟩ = some (.string ⟨#[]⟩) := HT10.out.rcell 0; have r1 : w10.cell? ⟨ra, 1, none⟩ = some (.string ⟨#[]⟩) := HT10.out.rcell 1; have z0 := blk_frozen HT10.out.res 0; have z1 := blk_frozen HT10.out.res 1
            go_wp2
            obtain ⟨d1, d2, d3⟩ := HT10.out.done
            have e0 := blk_cell d1 0
            have e1 := blk_cell d1 1
            exact bodyPost_ret (v := .tuple #[.agg #[.string name, .string ⟨#[]⟩], .int .i64 41]) (by simp [results, Tryz.results148, go_sem, e0, e1]) rfl ⟨rfl, d2, d3⟩
          · rw [if_neg he] at hr
            obtain ⟨d, hd, hr⟩ := Option.bind_eq_some_iff.1 hr
            obtain rfl := Option.some.inj hr
            have DC := fun (w1 : World) (hG : G2 w1) => x_Decode.calls k v true d w1 hd hG
            clear hr hd
            go_upto_region 13 with (go_at_call 132; refine (UC2 _ (HT8.out.box.at_ (l + 1) (z := (l : Int) + 1) (by omega))).mono ?_; rintro e w9 ⟨rfl, hb9, hf9⟩; have HT9 := Lib.hid ((HT8.out.move (l + 1) (z := (l : Int) + 1) (by omega)).step hb9 hf9); have c0 := HT9.out.box.cell0; have c1 := HT9.out.box.cell1)
            have hq : (((l + 1 + n2 : Nat) : Int) == (s.size : Int)) = false := by rw [beq_eq_false_iff_ne]; omega
            have hlt : l + 1 + n2 < s.size := by omega
            clear he
            go_quiet (fail)
            have HT10 := Lib.hid (HT9.out.later (pw_below_drewN (Below.refl _ _) nq))
            generalize w9.drewN nq = w10 at *
            clear c0 c1 k1 q1
            have k1 := HT10.out.box.cell1
            have q1 := HT10.out.box.frz 1
            go_wp2_with (go_at_call 125; refine (DC _ (HG.out _ (HT10.out.move (l + 1 + n2 + 1) (by omega)).fr)).mono ?_; rintro e w11 ⟨rfl, hb11⟩; have HT11 := Lib.hid ((HT10.out.move (l + 1 + n2 + 1) (by omega)).later hb11); have t0 : w11.cell? ⟨ab, 0, none⟩ = some (.string name) := HT11.out.tcell 0; have t1 : w11.cell? ⟨ab, 1, none⟩ = some (.string ⟨#[]⟩) := HT11.out.tcell 1; have r0 : w11.cell? ⟨ra, 0, none⟩ = some (.string ⟨#[]⟩) := HT11.out.rcell 0; have r1 : w11.cell? ⟨ra, 1, none⟩ = some (.string ⟨#[]⟩) := HT11.out.rcell 1; have z0 := blk_frozen HT11.out.res 0; have z1 := blk_frozen HT11.out.res 1; have u1 := blk_frozen HT11.out.tk 1)
            have HTX := Lib.hid (HT11.out.put d)
            obtain ⟨d1, d2, d3⟩ := HTX.out.done
            have e0 := blk_cell d1 0
            have e1 := blk_cell d1 1
            exact bodyPost_ret (v := .tuple #[.agg #[.string name, .string d], .int .i64 0]) (by simp [results, Tryz.results148, go_sem, e0, e1]) rfl ⟨rfl, d2, d3⟩
end Go.Proofs.YtpfhgolamlnhiaaGreatDoor
