/- strings.IndexAny at the five bytes that a bare value may not hold, for every string. -/
import Derived.Test.YtpfhgolamlnhiaaGreatDoorChar
import Derived.Laws.RangeString
import Derived.Laws.Runes
set_option linter.unusedVariables false
set_option linter.unusedSimpArgs false
namespace Go.Proofs.YtpfhgolamlnhiaaGreatDoor
open Go.RowKit Go.Proofs.YtpfhgolamlnhiaaGreatDoorW.PrintWords

def badVal : ByteArray := ⟨#[34, 39, 60, 61, 96]⟩
theorem enc_high (r : Nat) (h0 : 128 ≤ r) : 2 ≤ (Utf8.encode (r : Int)).size ∧ ∀ i (hi : i < (Utf8.encode (r : Int)).size), 128 ≤ ((Utf8.encode (r : Int))[i]).toNat := by
  obtain ⟨c, hc, he⟩ : ∃ c : Nat, 128 ≤ c ∧ c < 1114112 ∧ Utf8.encode (r : Int) = (if c < 128 then ⟨#[UInt8.ofNat c]⟩ else if c < 2048 then ⟨#[UInt8.ofNat (192 + c / 64), UInt8.ofNat (128 + c % 64)]⟩ else if c < 65536 then ⟨#[UInt8.ofNat (224 + c / 4096), UInt8.ofNat (128 + c / 64 % 64), UInt8.ofNat (128 + c % 64)]⟩ else ⟨#[UInt8.ofNat (240 + c / 262144), UInt8.ofNat (128 + c / 4096 % 64), UInt8.ofNat (128 + c / 64 % 64), UInt8.ofNat (128 + c % 64)]⟩) := by
    refine ⟨if Utf8.valid (r : Int) = true then (r : Int).toNat else Utf8.runeError, ?_, ?_, rfl⟩
    · split
      · omega
      · decide
    · split
      · rename_i hv
        simp [Utf8.valid] at hv
        omega
      · decide
  obtain ⟨hc2, he⟩ := he
  rw [he, if_neg (by omega)]
  have two : ∀ (a b : UInt8), 128 ≤ a.toNat → 128 ≤ b.toNat → 2 ≤ (⟨#[a, b]⟩ : ByteArray).size ∧ ∀ i (hi : i < (⟨#[a, b]⟩ : ByteArray).size), 128 ≤ ((⟨#[a, b]⟩ : ByteArray)[i]).toNat := by
    intro a b h1 h2
    refine ⟨by simp [ByteArray.size], fun i hi => ?_⟩
    have hi' : i < 2 := hi
    rcases i with _ | _ | i
    · exact h1
    · exact h2
    · omega
  have three : ∀ (a b c : UInt8), 128 ≤ a.toNat → 128 ≤ b.toNat → 128 ≤ c.toNat → 2 ≤ (⟨#[a, b, c]⟩ : ByteArray).size ∧ ∀ i (hi : i < (⟨#[a, b, c]⟩ : ByteArray).size), 128 ≤ ((⟨#[a, b, c]⟩ : ByteArray)[i]).toNat := by
    intro a b c h1 h2 h3
    refine ⟨by simp [ByteArray.size], fun i hi => ?_⟩
    have hi' : i < 3 := hi
    rcases i with _ | _ | _ | i
    · exact h1
    · exact h2
    · exact h3
    · omega
  have four : ∀ (a b c d : UInt8), 128 ≤ a.toNat → 128 ≤ b.toNat → 128 ≤ c.toNat → 128 ≤ d.toNat → 2 ≤ (⟨#[a, b, c, d]⟩ : ByteArray).size ∧ ∀ i (hi : i < (⟨#[a, b, c, d]⟩ : ByteArray).size), 128 ≤ ((⟨#[a, b, c, d]⟩ : ByteArray)[i]).toNat := by
    intro a b c d h1 h2 h3 h4
    refine ⟨by simp [ByteArray.size], fun i hi => ?_⟩
    have hi' : i < 4 := hi
    rcases i with _ | _ | _ | _ | i
    · exact h1
    · exact h2
    · exact h3
    · exact h4
    · omega
  have hn : ∀ n, 128 ≤ n → n < 256 → 128 ≤ (UInt8.ofNat n).toNat := by
    intro n h1 h2
    rw [UInt8.toNat_ofNat']
    omega
  by_cases h1 : c < 2048
  · rw [if_pos h1]
    exact two _ _ (hn _ (by omega) (by omega)) (hn _ (by omega) (by omega))
  · rw [if_neg h1]
    by_cases h2 : c < 65536
    · rw [if_pos h2]
      exact three _ _ _ (hn _ (by omega) (by omega)) (hn _ (by omega) (by omega)) (hn _ (by omega) (by omega))
    · rw [if_neg h2]
      exact four _ _ _ _ (hn _ (by omega) (by omega)) (hn _ (by omega) (by omega)) (hn _ (by omega) (by omega)) (hn _ (by omega) (by omega))
theorem high_none1 (b : UInt8) (h : 128 ≤ b.toNat) : Lib.indexByte [60, 61, 96] b = -1 := by
  have all : (List.range 256).all (fun n => decide (n < 128) || decide (Lib.indexByte [60, 61, 96] n.toUInt8 = -1)) = true := by decide +kernel
  have := List.all_eq_true.1 all b.toNat (List.mem_range.2 (UInt8.toNat_lt _))
  have e : b.toNat.toUInt8 = b := by simp
  rw [e] at this
  simp only [Bool.or_eq_true, decide_eq_true_eq] at this
  rcases this with h2 | h2
  · omega
  · exact h2
theorem high_none2 (b : UInt8) (h : 128 ≤ b.toNat) : Lib.indexByte [61, 96] b = -1 := by
  have all : (List.range 256).all (fun n => decide (n < 128) || decide (Lib.indexByte [61, 96] n.toUInt8 = -1)) = true := by decide +kernel
  have := List.all_eq_true.1 all b.toNat (List.mem_range.2 (UInt8.toNat_lt _))
  have e : b.toNat.toUInt8 = b := by simp
  rw [e] at this
  simp only [Bool.or_eq_true, decide_eq_true_eq] at this
  rcases this with h2 | h2
  · omega
  · exact h2
theorem high_none3 (b : UInt8) (h : 128 ≤ b.toNat) : Lib.indexByte [96] b = -1 := by
  have all : (List.range 256).all (fun n => decide (n < 128) || decide (Lib.indexByte [96] n.toUInt8 = -1)) = true := by decide +kernel
  have := List.all_eq_true.1 all b.toNat (List.mem_range.2 (UInt8.toNat_lt _))
  have e : b.toNat.toUInt8 = b := by simp
  rw [e] at this
  simp only [Bool.or_eq_true, decide_eq_true_eq] at this
  rcases this with h2 | h2
  · omega
  · exact h2
/-- A character that begins beyond ASCII: all its bytes do, and so does it. -/
theorem dec_high (s : ByteArray) (i : Nat) (hi : i < s.size) (h : 128 ≤ Sv.at' s i) : 128 ≤ (Utf8.decode s i).1 ∧ 1 ≤ (Utf8.decode s i).2 ∧ i + (Utf8.decode s i).2 ≤ s.size ∧ ∀ j, i ≤ j → j < i + (Utf8.decode s i).2 → 128 ≤ Sv.at' s j := by
  unfold Utf8.decode
  simp only [Nat.add_zero, show ∀ k, (s.get! k).toNat = Sv.at' s k from fun _ => rfl, Bool.and_eq_true, decide_eq_true_eq, beq_iff_eq]
  rw [if_neg (by omega)]
  have one : 128 ≤ (Utf8.runeError, 1).1 ∧ 1 ≤ (Utf8.runeError, 1).2 ∧ i + (Utf8.runeError, 1).2 ≤ s.size ∧ ∀ j, i ≤ j → j < i + (Utf8.runeError, 1).2 → 128 ≤ Sv.at' s j := by
    refine ⟨by decide, by decide, by show i + 1 ≤ _; omega, fun j h1 h2 => ?_⟩
    have h2' : j < i + 1 := h2
    obtain rfl : j = i := by omega
    exact h
  by_cases h2 : Sv.at' s i / 32 = 6 ∧ i + 1 < s.size ∧ Sv.at' s (i + 1) / 64 = 2
  · rw [if_pos h2]
    split
    · rename_i hc
      refine ⟨hc, by show 1 ≤ 2; omega, by show i + 2 ≤ _; omega, fun j h3 h4 => ?_⟩
      have h4' : j < i + 2 := h4
      rcases (by omega : j = i ∨ j = i + 1) with rfl | rfl
      · exact h
      · omega
    · exact one
  · rw [if_neg h2]
    split
    · rename_i h3
      split
      · rename_i hc
        obtain ⟨⟨_, g1, g2⟩, g3, g4⟩ := h3
        refine ⟨by show 128 ≤ _ ; omega, by show 1 ≤ 3; omega, by show i + 3 ≤ _; omega, fun j h3 h4 => ?_⟩
        have h4' : j < i + 3 := h4
        rcases (by omega : j = i ∨ j = i + 1 ∨ j = i + 2) with rfl | rfl | rfl
        · exact h
        · omega
        · omega
      · exact one
    · split
      · rename_i h3
        split
        · rename_i hc
          obtain ⟨⟨⟨_, g1, g2⟩, g3, g4⟩, g5, g6⟩ := h3
          refine ⟨by show 128 ≤ _ ; omega, by show 1 ≤ 4; omega, by show i + 4 ≤ _; omega, fun j h3 h4 => ?_⟩
          have h4' : j < i + 4 := h4
          rcases (by omega : j = i ∨ j = i + 1 ∨ j = i + 2 ∨ j = i + 3) with rfl | rfl | rfl | rfl
          · exact h
          · omega
          · omega
          · omega
        · exact one
      · exact one
theorem bad_high (b : UInt8) (h : 128 ≤ b.toNat) : ([34, 39, 60, 61, 96] : List UInt8).contains b = false := by
  have all : (List.range 256).all (fun n => decide (n < 128) || !(([34, 39, 60, 61, 96] : List UInt8).contains n.toUInt8)) = true := by decide +kernel
  have := List.all_eq_true.1 all b.toNat (List.mem_range.2 (UInt8.toNat_lt _))
  have e : b.toNat.toUInt8 = b := by simp
  rw [e] at this
  simp only [Bool.or_eq_true, decide_eq_true_eq, Bool.not_eq_true'] at this
  rcases this with h2 | h2
  · omega
  · exact h2
theorem below_drawn2 (w : World) (n m : Nat) : Below w.heap.size w ((w.drewN n).drewN m) := pw_below_drewN (pw_below_drewN (Below.refl _ _) _) _
theorem iter_below (w : World) (s : ByteArray) (pos : Nat) : Below w.heap.size w (w.iter s pos) := (Below.refl _ _).alloc (Nat.le_refl _) _
theorem bad_next (w : World) (i : Nat) (hi : i < 5) : ∃ c : Int, 0 ≤ c ∧ c < 128 ∧ ∀ ty, (Instr.next (.pointer (some ⟨w.heap.size, 0, none⟩)) true ty).run Tryz.prog (w.iter ⟨#[34, 39, 60, 61, 96]⟩ i) = .ok (.tuple #[.bool true, .int .i64 i, .int .i32 c]) (w.iter ⟨#[34, 39, 60, 61, 96]⟩ (i + 1)) := by
  have h5 : i < (⟨#[34, 39, 60, 61, 96]⟩ : ByteArray).size := hi
  have ha : ((⟨#[34, 39, 60, 61, 96]⟩ : ByteArray)[i]'h5).toNat < 128 := by
    rcases (by omega : i = 0 ∨ i = 1 ∨ i = 2 ∨ i = 3 ∨ i = 4) with rfl | rfl | rfl | rfl | rfl <;> decide +revert
  exact ⟨_, by omega, by omega, fun ty => run_next_ascii (P := Tryz.prog) w ⟨#[34, 39, 60, 61, 96]⟩ i ty h5 ha⟩
set_option maxHeartbeats 4000000 in
set_option maxRecDepth 1000000 in
theorem idxRune_err (w : World) :
    Calls Tryz.prog 184 #[.string ⟨#[34, 39, 60, 61, 96]⟩, .int .i32 65533] w fun e w' => e = .returned (.int .i64 (-1)) ∧ Below w.heap.size w w' := by
  go_enter Tryz.func184, Tryz.ntmps184
  go_wp2
  go_loopg [5, 6] 5 (fun kq v5 v6 wz => ∃ i : Nat, i + kq = 5 ∧ wz = w.iter ⟨#[34, 39, 60, 61, 96]⟩ i)
  case atStart => exact ⟨0, rfl, rfl⟩
  case round =>
    obtain ⟨i, hi, rfl⟩ := hrel
    cases gk with
    | zero =>
      obtain rfl : i = 5 := by omega
      have hnx := fun ty => run_next_end (P := Tryz.prog) w ⟨#[34, 39, 60, 61, 96]⟩ 5 ty (by decide)
      go_wp2
      go_ret
      exact ⟨rfl, iter_below _ _ _⟩
    | succ g =>
      obtain ⟨c, hc0, hc, hnx⟩ := bad_next w i (by omega)
      have hq : (c == 65533) = false := by rw [beq_eq_false_iff_ne]; omega
      have hz : ((i : Int) + 1) = ((i + 1 : Nat) : Int) := by omega
      clear hc hc0 hz
      go_wp2
      go_roundg g
      case measure => omega
      case rel => exact ⟨i + 1, by omega, rfl⟩
set_option maxHeartbeats 4000000 in
set_option maxRecDepth 1000000 in
theorem idxRune_high (r : Nat) (w : World) (h0 : 128 ≤ r) :
    Calls Tryz.prog 184 #[.string ⟨#[34, 39, 60, 61, 96]⟩, .int .i32 r] w fun e w' => e = .returned (.int .i64 (-1)) ∧ Below w.heap.size w w' := by
  by_cases hr : r = 65533
  · subst hr
    exact idxRune_err w
  have hq : ((r : Int) == 65533) = false := by rw [beq_eq_false_iff_ne]; omega
  have hlt : ¬ (r : Int) < 128 := by omega
  have VC := fun (w1 : World) => Tryz.utf8_ValidRune (r : Int) w1
  obtain ⟨e2, eh⟩ := enc_high r h0
  have e4 : (Utf8.encode (r : Int)).size ≤ 4 := by
    unfold Utf8.encode
    dsimp only
    (repeat' split) <;> simp [ByteArray.size]
  clear hr h0
  generalize Lib.validRune (r : Int) = vr at *
  cases vr
  · go_enter Tryz.func184, Tryz.ntmps184
    go_wp2_with (go_at_call 182; refine (VC _).mono ?_; rintro e w1 ⟨rfl, rfl⟩)
    go_ret
    exact ⟨rfl, Below.refl _ _⟩
  · have i1 : (2 : Int) ≤ ((Utf8.encode (r : Int)).size : Int) := by omega
    have i2 : ((Utf8.encode (r : Int)).size : Int) ≤ 4 := by omega
    go_enter Tryz.func184, Tryz.ntmps184
    go_wp2_with (go_at_call 182; refine (VC _).mono ?_; rintro e w1 ⟨rfl, rfl⟩)
    go_step3
    go_wp2
    generalize Utf8.encode (r : Int) = rs at *
    obtain ⟨n, hn⟩ : ∃ n, rs.size = n := ⟨_, rfl⟩
    rcases (by omega : n = 2 ∨ n = 3 ∨ n = 4) with rfl | rfl | rfl
    · have hw : (rs.size : Int) - 1 = 1 := by omega
      rw [hw]
      have h1 : 1 < rs.size := by omega
      have h1i : (1 : Int) < (rs.size : Int) := by omega
      have hb := eh 1 h1
      have hb2 : ((((⟨#[34, 39, 60, 61, 96]⟩ : ByteArray)[1]'(by decide)).toNat : Int) != (rs[1].toNat : Int)) = true := by rw [bne_iff_ne]; show (39 : Int) ≠ _; omega
      have IB := fun (w1 : World) => Tryz.strings_IndexByte ⟨#[60, 61, 96]⟩ (rs[1].toNat : Int) w1
      rw [show (⟨#[60, 61, 96]⟩ : ByteArray).data.toList = [60, 61, 96] from rfl, Int.toNat_natCast, show rs[1].toNat.toUInt8 = rs[1] by simp, high_none1 _ hb] at IB
      clear eh e2 e4 hw hn i1 i2 hb
      refine wp_loop_rounds 1 ?_
      rw [rounds_succ]
      go_wp2
      go_step3
      go_wp2
      go_quiet (fail)
      have hB : Below w1.heap.size w1 (w1.drewN nq) := pw_below_drewN (Below.refl _ _) _
      generalize w1.drewN nq = w2 at *
      go_wp2
      have hs : IntKind.i64.wrap ((1 : Int) + 1) = 2 := by decide
      go_quiet ((go_at_call 86; exact Calls.quiet_of_same (IB _)))
      go_wp2
      (try rw [Exit.noGoto_ret])
      go_wp2
      (try rw [Exit.noGoto_ret])
      go_ret
      exact ⟨rfl, pw_below_drewN hB _⟩
    · have hw : (rs.size : Int) - 1 = 2 := by omega
      rw [hw]
      have h1 : 2 < rs.size := by omega
      have h1i : (2 : Int) < (rs.size : Int) := by omega
      have hb := eh 2 h1
      have hb2 : ((((⟨#[34, 39, 60, 61, 96]⟩ : ByteArray)[2]'(by decide)).toNat : Int) != (rs[2].toNat : Int)) = true := by rw [bne_iff_ne]; show (60 : Int) ≠ _; omega
      have IB := fun (w1 : World) => Tryz.strings_IndexByte ⟨#[61, 96]⟩ (rs[2].toNat : Int) w1
      rw [show (⟨#[61, 96]⟩ : ByteArray).data.toList = [61, 96] from rfl, Int.toNat_natCast, show rs[2].toNat.toUInt8 = rs[2] by simp, high_none2 _ hb] at IB
      clear eh e2 e4 hw hn i1 i2 hb
      refine wp_loop_rounds 1 ?_
      rw [rounds_succ]
      go_wp2
      go_step3
      go_wp2
      go_quiet (fail)
      have hB : Below w1.heap.size w1 (w1.drewN nq) := pw_below_drewN (Below.refl _ _) _
      generalize w1.drewN nq = w2 at *
      go_wp2
      have hs : IntKind.i64.wrap ((2 : Int) + 1) = 3 := by decide
      go_quiet ((go_at_call 86; exact Calls.quiet_of_same (IB _)))
      go_wp2
      (try rw [Exit.noGoto_ret])
      go_wp2
      (try rw [Exit.noGoto_ret])
      go_ret
      exact ⟨rfl, pw_below_drewN hB _⟩
    · have hw : (rs.size : Int) - 1 = 3 := by omega
      rw [hw]
      have h1 : 3 < rs.size := by omega
      have h1i : (3 : Int) < (rs.size : Int) := by omega
      have hb := eh 3 h1
      have hb2 : ((((⟨#[34, 39, 60, 61, 96]⟩ : ByteArray)[3]'(by decide)).toNat : Int) != (rs[3].toNat : Int)) = true := by rw [bne_iff_ne]; show (61 : Int) ≠ _; omega
      have IB := fun (w1 : World) => Tryz.strings_IndexByte ⟨#[96]⟩ (rs[3].toNat : Int) w1
      rw [show (⟨#[96]⟩ : ByteArray).data.toList = [96] from rfl, Int.toNat_natCast, show rs[3].toNat.toUInt8 = rs[3] by simp, high_none3 _ hb] at IB
      clear eh e2 e4 hw hn i1 i2 hb
      refine wp_loop_rounds 1 ?_
      rw [rounds_succ]
      go_wp2
      go_step3
      go_wp2
      go_quiet (fail)
      have hB : Below w1.heap.size w1 (w1.drewN nq) := pw_below_drewN (Below.refl _ _) _
      generalize w1.drewN nq = w2 at *
      go_wp2
      have hs : IntKind.i64.wrap ((3 : Int) + 1) = 4 := by decide
      go_quiet ((go_at_call 86; exact Calls.quiet_of_same (IB _)))
      go_wp2
      (try rw [Exit.noGoto_ret])
      go_wp2
      (try rw [Exit.noGoto_ret])
      go_ret
      exact ⟨rfl, pw_below_drewN hB _⟩
set_option maxHeartbeats 4000000 in
set_option maxRecDepth 100000 in
theorem idxAny_calls (s : ByteArray) (w : World) (hs : s.size ≤ 65536) :
    Calls Tryz.prog 170 #[.string s, .string ⟨#[34, 39, 60, 61, 96]⟩] w fun e w' => e = .returned (.int .i64 (Lib.indexAny s.data.toList [34, 39, 60, 61, 96])) ∧ Below w.heap.size w w' := by
  by_cases h8 : 8 < s.size
  · refine (Tryz.strings_IndexAny_long Tryz.zeroValue153 s ⟨#[34, 39, 60, 61, 96]⟩ w (by decide) h8 (by omega) (by decide) ?_).mono ?_
    · intro j b h
      have hb : b ∈ ([34, 39, 60, 61, 96] : List UInt8) := List.mem_of_getElem? h
      have all : ∀ x ∈ ([34, 39, 60, 61, 96] : List UInt8), x.toNat < 128 := by decide
      exact all b hb
    · rintro e w' ⟨rfl, rfl⟩
      exact ⟨rfl, ((Below.refl _ _).alloc (Nat.le_refl _) _).alloc (by simp) _⟩
  have h8z : decide ((8 : Int) < (s.size : Int)) = false := decide_eq_false (by omega)
  have SU := fun (w1 : World) => Any.strings_shouldUseASCIISet (P := Tryz.prog) { Tryz.lays153 with } (s.size : Int) w1
  rw [h8z] at SU
  have hemp : (⟨#[34, 39, 60, 61, 96]⟩ : ByteArray).toList.isEmpty = false := by rw [Lib.toList_data]; rfl
  have hsz9 : s.size ≤ 8 := by omega
  clear h8z h8 hs
  go_enter Tryz.func170, Tryz.ntmps170
  go_wp2_with (go_at_call 185; refine (SU _).mono ?_; rintro e w1 ⟨rfl, rfl⟩)
  go_loopg [9, 10] (s.size + 1) (fun kq _ _ wx => ∃ i : Nat, i ≤ s.size ∧ s.size - i < kq ∧ wx.heap[w1.heap.size]? = some (.stringIter s i) ∧ Hid (Below w1.heap.size w1 wx) ∧ Hid (Lib.NoAny s.data.toList [34, 39, 60, 61, 96] i))
  case atStart => exact ⟨0, by omega, by omega, World.iter_heap w1 s 0, Lib.hid (iter_below _ _ _), Lib.hid (Lib.NoAny.zero _ _)⟩
  case round =>
    obtain ⟨i, hi, hk, hit, HB, HN⟩ := hrel
    cases gk with
    | zero => omega
    | succ k3 =>
      by_cases hlt : i < s.size
      · have hnx : ∀ ty, (Instr.next (.pointer (some ⟨w1.heap.size, 0, none⟩)) true ty).run Tryz.prog wr = _ := fun ty => Lib.run_next_any_at wr w1.heap.size s i ty hit hlt
        have hxl : s.data.toList[i]? = some s[i] := Lib.data_getElem? s i hlt
        have ha := at_get s i hlt
        have hlt' : w1.heap.size < wr.heap.size := (Array.getElem?_eq_some_iff.1 hit).1
        by_cases hlo : s[i].toNat < 128
        · rw [Sv.dec_low s i (by rw [ha]; exact hlo), ha] at hnx
          dsimp only at hnx
          have hit2 := Lib.iterAt_heap wr w1.heap.size s i (i + 1) hit
          have HB2 := Lib.hid (Lib.below_iterAt HB.out (k := w1.heap.size) (Nat.le_refl _) s (i + 1))
          have RC := fun (w : World) => Any.strings_IndexRune_ascii (P := Tryz.prog) { Tryz.lays153 with } ⟨#[34, 39, 60, 61, 96]⟩ (s[i].toNat : Int) w (by omega) (by omega)
          have hcon := Lib.contains_iff_indexByte [34, 39, 60, 61, 96] s[i]
          rw [show (⟨#[34, 39, 60, 61, 96]⟩ : ByteArray).data.toList = [34, 39, 60, 61, 96] from rfl, Int.toNat_natCast, show s[i].toNat.toUInt8 = s[i] by simp] at RC
          have HX : Hid (s.data.toList[i]? = some s[i]) := Lib.hid hxl
          clear hxl ha hit
          cases hin : ([34, 39, 60, 61, 96] : List UInt8).contains s[i]
          · rw [hin] at hcon
            have hno : ¬ ((0 : Int) ≤ Lib.indexByte [34, 39, 60, 61, 96] s[i]) := of_decide_eq_false hcon.symm
            have HN2 : Hid (Lib.NoAny s.data.toList [34, 39, 60, 61, 96] (i + 1)) := Lib.hid (HN.out.succ HX.out hin)
            clear hcon hin HN HX
            generalize Lib.indexByte [34, 39, 60, 61, 96] s[i] = ix at *
            go_wp2_with (go_at_call 184; refine (RC _).mono ?_; rintro e w' ⟨rfl, rfl⟩)
            go_roundg k3
            case measure => omega
            case rel => exact ⟨i + 1, by omega, by omega, hit2, HB2, HN2⟩
          · rw [hin] at hcon
            have hge : (0 : Int) ≤ Lib.indexByte [34, 39, 60, 61, 96] s[i] := of_decide_eq_true hcon.symm
            have HI : Hid (Lib.indexAny s.data.toList [34, 39, 60, 61, 96] = i) := Lib.hid (Lib.indexAny_hit HN.out HX.out hin)
            clear hcon hin HN HX
            generalize Lib.indexByte [34, 39, 60, 61, 96] s[i] = ix at *
            go_wp2_with (go_at_call 184; refine (RC _).mono ?_; rintro e w' ⟨rfl, rfl⟩)
            go_ret
            exact ⟨by rw [HI.out]; rfl, HB2.out⟩
        · obtain ⟨d1, d2, d3, d4⟩ := dec_high s i hlt (by rw [ha]; omega)
          have HN2 : Hid (Lib.NoAny s.data.toList [34, 39, 60, 61, 96] (i + (Utf8.decode s i).2)) := Lib.hid (by
            intro j b hj hb
            rcases Nat.lt_or_ge j i with h5 | h5
            · exact HN.out j b h5 hb
            · have h6 := d4 j h5 hj
              have h7 : j < s.size := by omega
              rw [at_get s j h7] at h6
              have h8 := Lib.data_getElem? s j h7
              rw [hb] at h8
              obtain rfl := Option.some.inj h8
              exact bad_high _ h6)
          have RC := fun (w : World) => idxRune_high (Utf8.decode s i).1 w d1
          have hit2 := Lib.iterAt_heap wr w1.heap.size s i (i + (Utf8.decode s i).2) hit
          have HB2 := Lib.hid (Lib.below_iterAt HB.out (k := w1.heap.size) (Nat.le_refl _) s (i + (Utf8.decode s i).2))
          clear d4 hxl ha HN hit
          generalize Utf8.decode s i = q at *
          generalize hX : wr.iterAt w1.heap.size s (i + q.2) = wx at *
          clear hX
          go_wp2_with (go_at_call 184; refine (RC _).mono ?_; rintro e w' ⟨rfl, hb⟩)
          go_roundg k3
          case measure => omega
          case rel => exact ⟨i + q.2, by omega, by omega, (hb.block _ (Array.getElem?_eq_some_iff.1 hit2).1).trans hit2, Lib.hid (below_then HB2.out HB2.out.size hb), HN2⟩
      · have hnx : ∀ ty, (Instr.next (.pointer (some ⟨w1.heap.size, 0, none⟩)) true ty).run Tryz.prog wr = _ := fun ty => Lib.run_next_end_at wr w1.heap.size s i ty hit hlt
        have hN := HN.out
        rw [show i = s.data.toList.length by rw [Sv.size_list]; omega] at hN
        have HI := Lib.hid (Lib.indexAny_none hN)
        clear hN
        clear HN
        go_wp2
        go_ret
        exact ⟨by rw [HI.out]; rfl, HB.out⟩
end Go.Proofs.YtpfhgolamlnhiaaGreatDoor
