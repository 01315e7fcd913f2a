/- Well-formed text: what the reference finds well is decoded as itself. -/
import Derived.Test.YtpfhgolamlnhiaaGreatDoorAscii
import Derived.Test.YtpfhgolamlnhiaaGreatDoorXF
import Derived.Test.YtpfhgolamlnhiaaGreatDoorXA
import Derived.Test.YtpfhgolamlnhiaaGreatDoorExt1
set_option linter.unusedVariables false
set_option linter.unusedSimpArgs false
namespace Go.Proofs.YtpfhgolamlnhiaaGreatDoor.Val
open Go.RowKit Go.Proofs.YtpfhgolamlnhiaaGreatDoor Go.Proofs.YtpfhgolamlnhiaaGreatDoorW.PrintWords Go.Proofs.YtpfhgolamlnhiaaGreatDoor.XT Go.Proofs.YtpfhgolamlnhiaaGreatDoor.XF Go.Proofs.YtpfhgolamlnhiaaGreatDoor.XQ Go.Proofs.YtpfhgolamlnhiaaGreatDoor.Ascii

/-- A character's n bytes stand at i. -/
def Ch (s : ByteArray) (i n : Nat) : Prop := i + n ≤ s.size ∧
  ((n = 1 ∧ Sv.at' s i < 128) ∨
   (n = 2 ∧ 194 ≤ Sv.at' s i ∧ Sv.at' s i ≤ 223 ∧ 128 ≤ Sv.at' s (i + 1) ∧ Sv.at' s (i + 1) ≤ 191) ∨
   (n = 3 ∧ 224 ≤ Sv.at' s i ∧ Sv.at' s i ≤ 239 ∧ (Sv.at' s i = 224 → 160 ≤ Sv.at' s (i + 1)) ∧ (Sv.at' s i = 237 → Sv.at' s (i + 1) ≤ 159) ∧ 128 ≤ Sv.at' s (i + 1) ∧ Sv.at' s (i + 1) ≤ 191 ∧ 128 ≤ Sv.at' s (i + 2) ∧ Sv.at' s (i + 2) ≤ 191) ∨
   (n = 4 ∧ 240 ≤ Sv.at' s i ∧ Sv.at' s i ≤ 244 ∧ (Sv.at' s i = 240 → 144 ≤ Sv.at' s (i + 1)) ∧ (Sv.at' s i = 244 → Sv.at' s (i + 1) ≤ 143) ∧ 128 ≤ Sv.at' s (i + 1) ∧ Sv.at' s (i + 1) ≤ 191 ∧ 128 ≤ Sv.at' s (i + 2) ∧ Sv.at' s (i + 2) ≤ 191 ∧ 128 ≤ Sv.at' s (i + 3) ∧ Sv.at' s (i + 3) ≤ 191))
/-- From i on there is whole character behind whole character, none of them 0. -/
inductive V (s : ByteArray) : Nat → Prop
  | fin : V s s.size
  | step (i n : Nat) : Ch s i n → Sv.at' s i ≠ 0 → V s (i + n) → V s i
theorem bt_at (a : ByteArray) (i : Nat) (h : i < a.size) : bt a (i : Int) = (Sv.at' a i : Int) := by
  rw [at_get a i h]
  exact (Go.Proofs.YtpfhgolamlnhiaaGreatDoorW.PrintWords.bt_at a (i : Int) (by rw [Int.toNat_natCast]; exact h)).symm
theorem at_ext (a : ByteArray) (i j : Nat) (h : i + j < a.size) : Sv.at' (a.extract i a.size) j = Sv.at' a (i + j) := by
  have hs : j < (a.extract i a.size).size := by rw [ByteArray.size_extract]; omega
  rw [at_get _ _ hs, at_get _ _ h, ByteArray.getElem_extract]
theorem size_cases (b : Int) (k : Nat) (n : Int) (h : selvedgeref02_size.f k b = some n) : (b < 128 ∧ n = 1) ∨ (194 ≤ b ∧ b ≤ 223 ∧ n = 2) ∨ (224 ≤ b ∧ b ≤ 239 ∧ n = 3) ∨ (240 ≤ b ∧ b ≤ 244 ∧ n = 4) ∨ n = 0 := by
  unfold selvedgeref02_size.f at h
  rcases k with _ | _ | k
  · simp only [selvedgeref02_size.j0, decide_eq_true_eq, Bool.false_eq_true, if_false] at h
    repeat' split at h
    all_goals first | (cases h; omega) | cases h
  · simp only [selvedgeref02_size.j0, selvedgeref02_size.j1, decide_eq_true_eq, Bool.false_eq_true, if_false] at h
    repeat' split at h
    all_goals first | (cases h; omega) | cases h
  · simp only [selvedgeref02_size.j0, selvedgeref02_size.j1, decide_eq_true_eq, Bool.false_eq_true, if_false] at h
    repeat' split at h
    all_goals first | (cases h; omega) | cases h
theorem second_cases (a b : Int) (h : selvedgeref02_second.f a b = some true) : (a = 224 → 160 ≤ b) ∧ (a = 237 → b ≤ 159) ∧ (a = 240 → 144 ≤ b) ∧ (a = 244 → b ≤ 143) ∧ 128 ≤ b ∧ b ≤ 191 := by
  unfold selvedgeref02_second.f at h
  repeat' split at h
  all_goals (simp at h; try omega)
theorem cut_step (a : ByteArray) (n x : Int) (i k : Nat) (r w : Int) (hi : (i : Int) < n) (i1 : 1 ≤ i) (hs : a.size ≤ 1000000) (h : selvedgeref02_Cut.l0 k a n x i = some (r, w, true)) :
    i < a.size ∧ (i = 1 → selvedgeref02_second.f (bt a 0) (bt a 1) = some true) ∧ 128 ≤ Sv.at' a i ∧ Sv.at' a i ≤ 191 ∧ ∃ K x', k = K + 1 ∧ selvedgeref02_Cut.l0 K a n x' ((i + 1 : Nat) : Int) = some (r, w, true) := by
  cases k with
  | zero => cases h
  | succ k =>
    have tail : ∀ (hlt : i < a.size), (if 0 ≤ (i : Int) then (if (i : Int) < (a.size : Int) then (if (bt a i) < 128 then (some (65533, (i : Int), false)) else (if (bt a i) > 191 then (some (65533, (i : Int), false)) else (selvedgeref02_Cut.l0 k a n (Go.bits .or .i32 (wrap32 (x * 64)) (wrap32 (Go.bits .and .u8 (bt a i) 63))) (wrap64 ((i : Int) + 1))))) else none) else none) = some (r, w, true) →
        128 ≤ Sv.at' a i ∧ Sv.at' a i ≤ 191 ∧ ∃ K x', k + 1 = K + 1 ∧ selvedgeref02_Cut.l0 K a n x' ((i + 1 : Nat) : Int) = some (r, w, true) := by
      intro hlt ht
      rw [if_pos (by omega), if_pos (by omega), bt_at a i hlt] at ht
      split at ht
      · cases ht
      split at ht
      · cases ht
      rw [show wrap64 ((i : Int) + 1) = ((i + 1 : Nat) : Int) by unfold wrap64; omega] at ht
      exact ⟨by omega, by omega, k, _, rfl, ht⟩
    unfold selvedgeref02_Cut.l0 at h
    rw [if_pos hi] at h
    split at h
    · cases h
    rename_i hsz
    have hlt : i < a.size := by omega
    split at h
    · rw [if_pos (by omega), if_pos (by omega)] at h
      obtain ⟨q, hq, h⟩ := Option.bind_eq_some_iff.1 h
      split at h
      · rename_i hq2
        subst hq2
        exact ⟨hlt, fun _ => hq, tail hlt h⟩
      · cases h
    · exact ⟨hlt, fun e => by omega, tail hlt h⟩
theorem cut_fin (a : ByteArray) (n x : Int) (i : Int) (k : Nat) (r w : Int) (hi : ¬ i < n) (h : selvedgeref02_Cut.l0 k a n x i = some (r, w, true)) : w = n := by
  cases k with
  | zero => cases h
  | succ k =>
    unfold selvedgeref02_Cut.l0 at h
    rw [if_neg hi] at h
    simp at h
    exact h.2.symm
theorem cut_ok (a : ByteArray) (k : Nat) (r w : Int) (hs : a.size ≤ 1000000) (h : selvedgeref02_Cut.f k a = some (r, w, true)) : ∃ n : Nat, w = n ∧ Ch a 0 n ∧ (n = 1 → r = (Sv.at' a 0 : Int)) := by
  unfold selvedgeref02_Cut.f at h
  split at h
  case isFalse => cases h
  rename_i h0
  have h0' : 0 < a.size := by omega
  obtain ⟨n, hn, h⟩ := Option.bind_eq_some_iff.1 h
  have e0 : bt a 0 = (Sv.at' a 0 : Int) := bt_at a 0 h0'
  have hsz := size_cases _ _ _ hn
  rw [e0] at hsz
  split at h
  · cases h
  split at h
  · rename_i h1
    simp only [Option.some.injEq, Prod.mk.injEq] at h
    obtain ⟨hr, rfl, _⟩ := h
    refine ⟨1, rfl, ⟨by omega, .inl ⟨rfl, by omega⟩⟩, fun _ => ?_⟩
    rw [← hr, e0]
    unfold wrap32
    omega
  · rename_i hz h1
    split at h
    case isFalse => cases h
    have hn2 : (1 : Nat) < n := by omega
    obtain ⟨g0, g1, g2, g3, K, x1, rfl, h1'⟩ := cut_step a n _ 1 k r w hn2 (Nat.le_refl _) hs h
    have hsec := second_cases _ _ (g1 rfl)
    rw [e0, show bt a 1 = (Sv.at' a 1 : Int) from bt_at a 1 g0] at hsec
    rcases hsz with hb | hb | hb | hb | hb
    · omega
    · have hw := cut_fin a n x1 _ K r w (by omega) h1'
      refine ⟨2, by omega, ⟨by omega, .inr (.inl ⟨rfl, by omega, by omega, ?_, ?_⟩)⟩, fun e => by omega⟩ <;> (simp only [Nat.zero_add]; omega)
    · obtain ⟨f0, -, f2, f3, K2, x2, rfl, h2'⟩ := cut_step a n _ 2 K r w (by omega) (by omega) hs h1'
      have hw := cut_fin a n x2 _ K2 r w (by omega) h2'
      refine ⟨3, by omega, ⟨by omega, .inr (.inr (.inl ⟨rfl, by omega, by omega, ?_, ?_, ?_, ?_, ?_, ?_⟩))⟩, fun e => by omega⟩ <;> (simp only [Nat.zero_add]; omega)
    · obtain ⟨f0, -, f2, f3, K2, x2, rfl, h2'⟩ := cut_step a n _ 2 K r w (by omega) (by omega) hs h1'
      obtain ⟨e0, -, e2, e3, K3, x3, rfl, h3'⟩ := cut_step a n _ 3 K2 r w (by omega) (by omega) hs h2'
      have hw := cut_fin a n x3 _ K3 r w (by omega) h3'
      refine ⟨4, by omega, ⟨by omega, .inr (.inr (.inr ⟨rfl, by omega, by omega, ?_, ?_, ?_, ?_, ?_, ?_, ?_, ?_⟩))⟩, fun e => by omega⟩ <;> (simp only [Nat.zero_add]; omega)
    · omega
theorem ch_ext (a : ByteArray) (i n : Nat) (hi : i ≤ a.size) : Ch (a.extract i a.size) 0 n ↔ Ch a i n := by
  unfold Ch
  have hx : (a.extract i a.size).size = a.size - i := by rw [ByteArray.size_extract]; omega
  rw [hx]
  constructor
  · rintro ⟨h, h2⟩
    refine ⟨by omega, ?_⟩
    rcases h2 with h2 | h2 | h2 | h2
    · rw [at_ext a i 0 (by omega)] at h2; exact .inl h2
    · rw [at_ext a i 0 (by omega), at_ext a i (0 + 1) (by omega)] at h2; exact .inr (.inl h2)
    · rw [at_ext a i 0 (by omega), at_ext a i (0 + 1) (by omega), at_ext a i (0 + 2) (by omega)] at h2; exact .inr (.inr (.inl h2))
    · rw [at_ext a i 0 (by omega), at_ext a i (0 + 1) (by omega), at_ext a i (0 + 2) (by omega), at_ext a i (0 + 3) (by omega)] at h2; exact .inr (.inr (.inr h2))
  · rintro ⟨h, h2⟩
    refine ⟨by omega, ?_⟩
    rcases h2 with h2 | h2 | h2 | h2
    · rw [at_ext a i 0 (by omega)]; exact .inl h2
    · rw [at_ext a i 0 (by omega), at_ext a i (0 + 1) (by omega)]; exact .inr (.inl h2)
    · rw [at_ext a i 0 (by omega), at_ext a i (0 + 1) (by omega), at_ext a i (0 + 2) (by omega)]; exact .inr (.inr (.inl h2))
    · rw [at_ext a i 0 (by omega), at_ext a i (0 + 1) (by omega), at_ext a i (0 + 2) (by omega), at_ext a i (0 + 3) (by omega)]; exact .inr (.inr (.inr h2))
theorem Ch.pos {s : ByteArray} {i n : Nat} (h : Ch s i n) : 1 ≤ n ∧ n ≤ 4 ∧ i + n ≤ s.size := by
  obtain ⟨h1, h2⟩ := h
  omega
theorem well_V (s : ByteArray) (hs : s.size ≤ 1000000) : ∀ (k i : Nat), i ≤ s.size → selvedgeref05_Well.l0 k s i = some true → V s i
  | 0, i, hi, h => by cases h
  | k + 1, i, hi, h => by
    unfold selvedgeref05_Well.l0 at h
    split at h
    · rename_i hlt
      rw [if_pos (by omega), if_pos (by omega), Int.toNat_natCast] at h
      obtain ⟨⟨r, w, ok⟩, hc, h⟩ := Option.bind_eq_some_iff.1 h
      dsimp only at h
      split at h
      · rename_i hok
        subst hok
        split at h
        · cases h
        · rename_i hr
          obtain ⟨n, rfl, hch, h1⟩ := cut_ok _ _ _ _ (by rw [ByteArray.size_extract]; omega) hc
          have hch2 := (ch_ext s i n hi).1 hch
          have hp := hch2.pos
          rw [show wrap64 ((i : Int) + (n : Int)) = ((i + n : Nat) : Int) by unfold wrap64; omega] at h
          refine V.step i n hch2 ?_ (well_V s hs k (i + n) hp.2.2 h)
          rw [at_ext s i 0 (by omega)] at h1
          intro hz
          by_cases hn : n = 1
          · exact hr (by rw [h1 hn]; rw [Nat.add_zero, hz]; rfl)
          · obtain ⟨_, h2⟩ := hch2; omega
      · cases h
    · have : i = s.size := by omega
      subst this
      exact V.fin
theorem nd_tab : (List.range 256).all (fun b => decide (nd b = if b < 128 then (0, 0, 0, true) else if b < 194 then (0, 0, 0, false) else if b ≤ 223 then (1, 128, 191, true) else if b = 224 then (2, 160, 191, true) else if b = 237 then (2, 128, 159, true) else if b ≤ 239 then (2, 128, 191, true) else if b = 240 then (3, 144, 191, true) else if b = 244 then (3, 128, 143, true) else if b < 244 then (3, 128, 191, true) else (0, 0, 0, false))) = true := by decide +kernel
theorem nd_eq (b : Nat) (h : b < 256) : nd b = if b < 128 then (0, 0, 0, true) else if b < 194 then (0, 0, 0, false) else if b ≤ 223 then (1, 128, 191, true) else if b = 224 then (2, 160, 191, true) else if b = 237 then (2, 128, 159, true) else if b ≤ 239 then (2, 128, 191, true) else if b = 240 then (3, 144, 191, true) else if b = 244 then (3, 128, 143, true) else if b < 244 then (3, 128, 191, true) else (0, 0, 0, false) :=
  of_decide_eq_true (List.all_eq_true.1 nd_tab b (List.mem_range.2 h))
theorem pl_step (s : ByteArray) (n : Int) (f k : Nat) (lo hi : Int) (h : (k : Int) ≤ n) (h1 : k ≠ s.size) (h2 : lo ≤ (Sv.at' s k : Int)) (h3 : (Sv.at' s k : Int) ≤ hi) : partLoop s n (f + 1) k lo hi = partLoop s n f (k + 1) 128 191 := by
  rw [partLoop, if_pos h, if_neg (by omega)]
theorem pl_end (s : ByteArray) (n : Int) (f k : Nat) (lo hi : Int) (h : ¬ (k : Int) ≤ n) : partLoop s n (f + 1) k lo hi = (k, true) := by
  rw [partLoop, if_neg h]
theorem part_ch0 (a : ByteArray) (n : Nat) (h : Ch a 0 n) : part a = (n, true) := by
  obtain ⟨hsz, h⟩ := h
  have hb : Sv.at' a 0 < 256 := (a.get! 0).toNat_lt
  simp only [Nat.zero_add] at h hsz
  unfold part
  rcases h with ⟨rfl, h⟩ | ⟨rfl, h⟩ | ⟨rfl, h⟩ | ⟨rfl, h⟩
  · have e : nd (Sv.at' a 0) = (0, 0, 0, true) := by rw [nd_eq _ hb, if_pos h]
    rw [e]; rfl
  · have e : nd (Sv.at' a 0) = (1, 128, 191, true) := by rw [nd_eq _ hb, if_neg (by omega), if_neg (by omega), if_pos (by omega)]
    rw [e]
    dsimp only
    rw [if_pos rfl, pl_step a 1 5 1 _ _ (by omega) (by omega) (by omega) (by omega), pl_end a 1 4 2 _ _ (by omega)]
  · have e : nd (Sv.at' a 0) = (2, if Sv.at' a 0 = 224 then 160 else 128, if Sv.at' a 0 = 237 then 159 else 191, true) := by
      rw [nd_eq _ hb, if_neg (by omega), if_neg (by omega), if_neg (by omega)]
      split
      · rename_i q; rw [if_neg (by omega)]
      · split
        · rfl
        · rw [if_pos (by omega)]
    rw [e]
    dsimp only
    rw [if_pos rfl, pl_step a 2 5 1 _ _ (by omega) (by omega) (by split <;> omega) (by split <;> omega), pl_step a 2 4 2 _ _ (by omega) (by omega) (by omega) (by omega), pl_end a 2 3 3 _ _ (by omega)]
  · have e : nd (Sv.at' a 0) = (3, if Sv.at' a 0 = 240 then 144 else 128, if Sv.at' a 0 = 244 then 143 else 191, true) := by
      rw [nd_eq _ hb, if_neg (by omega), if_neg (by omega), if_neg (by omega), if_neg (by omega), if_neg (by omega), if_neg (by omega)]
      split
      · rename_i q; rw [if_neg (by omega)]
      · split
        · rfl
        · rw [if_pos (by omega)]
    rw [e]
    dsimp only
    rw [if_pos rfl, pl_step a 3 5 1 _ _ (by omega) (by omega) (by split <;> omega) (by split <;> omega), pl_step a 3 4 2 _ _ (by omega) (by omega) (by omega) (by omega), pl_step a 3 3 3 _ _ (by omega) (by omega) (by omega) (by omega), pl_end a 3 2 4 _ _ (by omega)]
theorem part_ch (s : ByteArray) (i n : Nat) (h : Ch s i n) : part (s.extract i s.size) = (n, true) := part_ch0 _ n ((ch_ext s i n (by have := h.pos; omega)).2 h)
theorem ext_ext (s : ByteArray) (i n : Nat) : (s.extract i s.size).extract n (s.extract i s.size).size = s.extract (i + n) s.size := by
  rw [← T_of s, T_drop, T_drop, T_drop, List.drop_drop]
theorem ext_list (s : ByteArray) (i n : Nat) : ((s.extract i s.size).extract 0 n).data.toList = (s.data.toList.drop i).take n := by
  rw [← T_of s, T_drop, T_take]
  rfl
theorem drop_take {α : Type} (l : List α) (i n : Nat) : l.drop i = (l.drop i).take n ++ l.drop (i + n) := by
  rw [← List.drop_drop, List.take_append_drop]
theorem mend_V (s : ByteArray) (hs : s.size ≤ 65536) : ∀ (f i : Nat) (acc : List UInt8), V s i → i ≤ s.size → s.size - i < f → acc.length + (s.size - i) ≤ 70368744177664 → mendGo f (s.extract i s.size) acc = some (acc ++ s.data.toList.drop i)
  | 0, i, acc, h, h0, h1, h2 => by omega
  | f + 1, i, acc, h, h0, h1, h2 => by
    rw [mendGo]
    have hx : (s.extract i s.size).size = s.size - i := by rw [ByteArray.size_extract]; omega
    cases h with
    | fin => rw [if_pos (by omega), List.drop_eq_nil_of_le (by rw [Sv.size_list]; omega), List.append_nil]
    | step _ n hc hz hv =>
      have hp := hc.pos
      have hl : ((s.data.toList.drop i).take n).length = n := by rw [List.length_take, List.length_drop, Sv.size_list]; omega
      rw [if_neg (by omega), part_ch s i n hc, if_pos rfl]
      dsimp only
      rw [ext_list, ext_ext]
      unfold wr
      rw [if_pos (by rw [hl]; omega), Option.bind_some, mend_V s hs f (i + n) _ hv hp.2.2 (by omega) (by rw [List.length_append, hl]; omega), List.append_assoc, ← drop_take]
theorem dec_ch (s : ByteArray) (i n : Nat) (h : Ch s i n) : (Utf8.decode s i).2 = n ∧ ((n = 1 ∧ (Utf8.decode s i).1 = Sv.at' s i) ∨ 128 ≤ (Utf8.decode s i).1) ∧ ¬ ((Utf8.decode s i).1 = 65533 ∧ (Utf8.decode s i).2 = 1) := by
  obtain ⟨hsz, h⟩ := h
  rcases h with ⟨rfl, h⟩ | ⟨rfl, h⟩ | ⟨rfl, h⟩ | ⟨rfl, h⟩
  · rw [Sv.dec_low s i h]
    exact ⟨rfl, .inl ⟨rfl, rfl⟩, fun hh => by have := hh.1; dsimp only at this; omega⟩
  · have e : Utf8.decode s i = ((Sv.at' s i % 32) * 64 + Sv.at' s (i + 1) % 64, 2) := by
      unfold Utf8.decode
      simp only [Nat.add_zero, show ∀ k, (s.get! k).toNat = Sv.at' s k from fun _ => rfl, Bool.and_eq_true, decide_eq_true_eq, beq_iff_eq]
      rw [if_neg (by omega), if_pos (by omega), if_pos (by omega)]
    rw [e]
    exact ⟨rfl, .inr (by dsimp only; omega), fun hh => by have := hh.2; dsimp only at this; omega⟩
  · have e : Utf8.decode s i = ((Sv.at' s i % 16) * 4096 + (Sv.at' s (i + 1) % 64) * 64 + Sv.at' s (i + 2) % 64, 3) := by
      unfold Utf8.decode Utf8.valid
      simp only [Nat.add_zero, show ∀ k, (s.get! k).toNat = Sv.at' s k from fun _ => rfl, Bool.and_eq_true, decide_eq_true_eq, beq_iff_eq, Bool.or_eq_true]
      rw [if_neg (by omega), if_neg (by omega), if_pos (by omega), if_pos (by omega)]
    rw [e]
    exact ⟨rfl, .inr (by dsimp only; omega), fun hh => by have := hh.2; dsimp only at this; omega⟩
  · have e : Utf8.decode s i = ((Sv.at' s i % 8) * 262144 + (Sv.at' s (i + 1) % 64) * 4096 + (Sv.at' s (i + 2) % 64) * 64 + Sv.at' s (i + 3) % 64, 4) := by
      unfold Utf8.decode Utf8.valid
      simp only [Nat.add_zero, show ∀ k, (s.get! k).toNat = Sv.at' s k from fun _ => rfl, Bool.and_eq_true, decide_eq_true_eq, beq_iff_eq, Bool.or_eq_true]
      rw [if_neg (by omega), if_neg (by omega), if_neg (by omega), if_pos (by omega), if_pos (by omega)]
    rw [e]
    exact ⟨rfl, .inr (by dsimp only; omega), fun hh => by have := hh.2; dsimp only at this; omega⟩
theorem cr_V (s : ByteArray) (hs : s.size ≤ 65536) (h13 : ∀ i, i < s.size → Sv.at' s i ≠ 13) : ∀ (f i : Nat) (st : Int) (acc : List UInt8), V s i → i ≤ s.size → s.size - i < f → st ≠ 13 → acc.length + (s.size - i) ≤ 70368744177664 → crGo s f i st acc = some (acc ++ s.data.toList.drop i)
  | 0, i, st, acc, h, h0, h1, h3, h2 => by omega
  | f + 1, i, st, acc, h, h0, h1, h3, h2 => by
    rw [crGo]
    cases h with
    | fin => rw [if_neg (by omega), List.drop_eq_nil_of_le (by rw [Sv.size_list]; omega), List.append_nil]
    | step _ n hc hz hv =>
      have hp := hc.pos
      have hl : ((s.data.toList.drop i).take n).length = n := by rw [List.length_take, List.length_drop, Sv.size_list]; omega
      obtain ⟨d2, d1, dv⟩ := dec_ch s i n hc
      have hne : s.data.toList.drop i ≠ [] := by
        intro e
        have := congrArg List.length e
        rw [List.length_drop, Sv.size_list] at this
        simp at this
        omega
      have enc := Lib.encode_decode (s.data.toList.drop i) hne (by rw [Lib.decodeL_drop]; exact dv)
      rw [Lib.decodeL_drop, d2] at enc
      have hr : ((Utf8.decode s i).1 : Int) ≠ 13 := by
        have := h13 i (by omega)
        omega
      rw [if_pos (by omega), if_neg (fun hh => h3 hh.2), if_neg hr, enc]
      unfold wr
      rw [if_pos (by rw [hl]; omega), Option.bind_some, d2, cr_V s hs h13 f (i + n) _ _ hv hp.2.2 (by omega) hr (by rw [List.length_append, hl]; omega), List.append_assoc, ← drop_take]
/-- Well-formed text without the character 13 is decoded as itself. -/
theorem utf_V (k : Nat) (s : ByteArray) (hv : V s 0) (h13 : ∀ i, i < s.size → Sv.at' s i ≠ 13) (hl : s.size ≤ 65536) (hk : s.size < k) : x_utfDecode.f k (bytesOf s) = some (s, 0) := by
  unfold x_utfDecode.f
  rw [if_pos (by rw [bytesOf_length]; exact hl), strOf_bytes]
  have e : s = ⟨s.data.toList.toArray⟩ := (T_of s).symm
  have hm := mend_V s hl k 0 [] hv (by omega) (by omega) (by simp; omega)
  rw [show s.extract 0 s.size = s from ByteArray.extract_zero_size, List.drop_zero, List.nil_append] at hm
  rw [hm, Option.bind_some, ← e, cr_V s hl h13 k 0 32 [] hv (by omega) (by omega) (by decide) (by simp; omega), Option.bind_some, List.drop_zero, List.nil_append, ← e]
/-! Texts put together. -/
theorem at_app_left (a b : ByteArray) (i : Nat) (h : i < a.size) : Sv.at' (a ++ b) i = Sv.at' a i := by
  rw [at_get _ i (by rw [ByteArray.size_append]; omega), at_get a i h, ByteArray.getElem_append_left h]
theorem at_app_right (a b : ByteArray) (i : Nat) (h : i < b.size) : Sv.at' (a ++ b) (a.size + i) = Sv.at' b i := by
  rw [at_get _ (a.size + i) (by rw [ByteArray.size_append]; omega), at_get b i h, ByteArray.getElem_append_right (by omega)]
  congr 2
  omega
theorem Ch.left {a b : ByteArray} {i n : Nat} (h : Ch a i n) : Ch (a ++ b) i n := by
  obtain ⟨h1, h2⟩ := h
  refine ⟨by rw [ByteArray.size_append]; omega, ?_⟩
  rcases h2 with h2 | h2 | h2 | h2
  · rw [at_app_left a b i (by omega)]; exact .inl h2
  · rw [at_app_left a b i (by omega), at_app_left a b (i + 1) (by omega)]; exact .inr (.inl h2)
  · rw [at_app_left a b i (by omega), at_app_left a b (i + 1) (by omega), at_app_left a b (i + 2) (by omega)]; exact .inr (.inr (.inl h2))
  · rw [at_app_left a b i (by omega), at_app_left a b (i + 1) (by omega), at_app_left a b (i + 2) (by omega), at_app_left a b (i + 3) (by omega)]; exact .inr (.inr (.inr h2))
theorem Ch.right {a b : ByteArray} {i n : Nat} (h : Ch b i n) : Ch (a ++ b) (a.size + i) n := by
  obtain ⟨h1, h2⟩ := h
  refine ⟨by rw [ByteArray.size_append]; omega, ?_⟩
  simp only [Nat.add_assoc]
  rcases h2 with h2 | h2 | h2 | h2
  · rw [at_app_right a b i (by omega)]; exact .inl h2
  · rw [at_app_right a b i (by omega), at_app_right a b (i + 1) (by omega)]; exact .inr (.inl h2)
  · rw [at_app_right a b i (by omega), at_app_right a b (i + 1) (by omega), at_app_right a b (i + 2) (by omega)]; exact .inr (.inr (.inl h2))
  · rw [at_app_right a b i (by omega), at_app_right a b (i + 1) (by omega), at_app_right a b (i + 2) (by omega), at_app_right a b (i + 3) (by omega)]; exact .inr (.inr (.inr h2))
theorem V.right {a b : ByteArray} {i : Nat} (h : V b i) : V (a ++ b) (a.size + i) := by
  induction h with
  | fin => have := V.fin (s := a ++ b); rw [ByteArray.size_append] at this; exact this
  | step i n hc hz hv ih =>
    have hp := hc.pos
    refine V.step _ n hc.right (by rw [at_app_right a b i (by omega)]; exact hz) ?_
    rw [Nat.add_assoc]
    exact ih
theorem V.app {a b : ByteArray} {i : Nat} (h : V a i) (hb : V b 0) : V (a ++ b) i := by
  induction h with
  | fin => have := V.right (a := a) hb; rw [Nat.add_zero] at this; exact this
  | step i n hc hz hv ih =>
    have hp := hc.pos
    exact V.step _ n hc.left (by rw [at_app_left a b i (by omega)]; exact hz) ih
theorem V_low (s : ByteArray) (h : ∀ i, i < s.size → Sv.at' s i < 128 ∧ Sv.at' s i ≠ 0) : ∀ (d i : Nat), s.size - i = d → i ≤ s.size → V s i
  | 0, i, hd, hi => by obtain rfl : i = s.size := by omega
                       exact V.fin
  | d + 1, i, hd, hi => V.step i 1 ⟨by omega, .inl ⟨rfl, (h i (by omega)).1⟩⟩ (h i (by omega)).2 (V_low s h d (i + 1) (by omega) (by omega))
theorem V.nz {s : ByteArray} {i : Nat} (h : V s i) : ∀ j, i ≤ j → j < s.size → Sv.at' s j ≠ 0 := by
  induction h with
  | fin => intro j h1 h2; omega
  | step i n hc hz hv ih =>
    intro j h1 h2
    by_cases hj : i + n ≤ j
    · exact ih j hj h2
    · obtain ⟨g1, g2⟩ := hc
      by_cases e0 : j = i
      · rw [e0]; exact hz
      by_cases e1 : j = i + 1
      · rw [e1]; omega
      by_cases e2 : j = i + 2
      · rw [e2]; omega
      · obtain rfl : j = i + 3 := by omega
        omega
end Go.Proofs.YtpfhgolamlnhiaaGreatDoor.Val

set_option linter.unusedVariables false
set_option linter.unusedSimpArgs false
namespace Go.Proofs.YtpfhgolamlnhiaaGreatDoor
open Go.RowKit Go.Proofs.YtpfhgolamlnhiaaGreatDoorW.PrintWords Go.Proofs.YtpfhgolamlnhiaaGreatDoor.XT

theorem w64 (x : Int) (h : 0 ≤ x) (h' : x ≤ 1000000000000) : wrap64 x = x := by unfold wrap64; omega
theorem bt_at' (s : ByteArray) (i : Nat) (h : i < s.size) : bt s (i : Int) = (Sv.at' s i : Int) := by
  unfold bt Sv.at'
  simp only [Int.toNat_natCast]
  rw [dif_pos h]
  have : s[i] = s.get! i := by
    show s.data[i] = s.data[i]!
    rw [getElem!_pos s.data i h]
  rw [this]
end Go.Proofs.YtpfhgolamlnhiaaGreatDoor

set_option linter.unusedVariables false
namespace Go.Proofs.YtpfhgolamlnhiaaGreatDoor.Pure
open Go.RowKit Go.Proofs.YtpfhgolamlnhiaaGreatDoor Go.Proofs.YtpfhgolamlnhiaaGreatDoorW.PrintWords Go.Proofs.YtpfhgolamlnhiaaGreatDoor.XT Go.Proofs.YtpfhgolamlnhiaaGreatDoor.XF

theorem size_some (b : Int) (k : Nat) (hk : 3 ≤ k) (hb : 0 ≤ b) : ∃ n, selvedgeref02_size.f k b = some n ∧ 0 ≤ n ∧ n ≤ 4 ∧ (n = 1 → b < 128) := by
  obtain ⟨k, rfl⟩ : ∃ m, k = m + 3 := ⟨k - 3, by omega⟩
  unfold selvedgeref02_size.f
  simp only [selvedgeref02_size.j0, selvedgeref02_size.j1]
  repeat' split
  all_goals exact ⟨_, rfl, by omega, by omega, by omega⟩
theorem second_some (a b : Int) : ∃ r, selvedgeref02_second.f a b = some r := by
  unfold selvedgeref02_second.f
  repeat' split
  all_goals exact ⟨_, rfl⟩
theorem cutl_some (a : ByteArray) (n : Nat) (h0 : 0 < a.size) (hn : n ≤ 4) : ∀ (d i k : Nat) (x : Int), n - i = d → 1 ≤ i → i ≤ n → (2 ≤ i → i ≤ a.size ∧ Sv.at' a (i - 1) ≤ 191) → (i = 1 → 1 < n) → d < k →
    ∃ (r : Int) (w : Nat) (ok : Bool), selvedgeref02_Cut.l0 k a n x i = some (r, ((w : Nat) : Int), ok) ∧ 1 ≤ w ∧ w ≤ 4 ∧ (ok = true → w ≤ a.size ∧ Sv.at' a (w - 1) ≤ 191) := by
  intro d
  induction d with
  | zero =>
    intro i k x h1 h2 h3 h4 h6 h5
    obtain ⟨K, rfl⟩ : ∃ K, k = K + 1 := ⟨k - 1, by omega⟩
    unfold selvedgeref02_Cut.l0
    rw [if_neg (by omega)]
    obtain rfl : i = n := by omega
    exact ⟨_, i, _, rfl, by omega, by omega, fun _ => h4 (by omega)⟩
  | succ d ih =>
    intro i k x h1 h2 h3 h4 h6 h5
    obtain ⟨K, rfl⟩ : ∃ K, k = K + 1 := ⟨k - 1, by omega⟩
    have tail : i < a.size → ∃ (r : Int) (w : Nat) (ok : Bool), (if 0 ≤ (i : Int) then (if (i : Int) < (a.size : Int) then (if (bt a i) < 128 then (some (65533, (i : Int), false)) else (if (bt a i) > 191 then (some (65533, (i : Int), false)) else (selvedgeref02_Cut.l0 K a n (Go.bits .or .i32 (wrap32 (x * 64)) (wrap32 (Go.bits .and .u8 (bt a i) 63))) (wrap64 ((i : Int) + 1))))) else none) else none) = some (r, ((w : Nat) : Int), ok) ∧ 1 ≤ w ∧ w ≤ 4 ∧ (ok = true → w ≤ a.size ∧ Sv.at' a (w - 1) ≤ 191) := by
      intro hi
      rw [if_pos (by omega), if_pos (by omega), bt_at' a i hi]
      split
      · exact ⟨_, i, _, rfl, by omega, by omega, fun e => by cases e⟩
      split
      · exact ⟨_, i, _, rfl, by omega, by omega, fun e => by cases e⟩
      · rw [w64 _ (by omega) (by omega), show ((i : Int) + 1) = ((i + 1 : Nat) : Int) from by omega]
        exact ih (i + 1) K _ (by omega) (by omega) (by omega) (fun _ => ⟨by omega, by rw [Nat.add_sub_cancel]; omega⟩) (by omega) (by omega)
    unfold selvedgeref02_Cut.l0
    rw [if_pos (by omega)]
    split
    · exact ⟨_, i, _, rfl, by omega, by omega, fun e => by cases e⟩
    split
    · rw [if_pos (by omega), if_pos (by omega)]
      obtain ⟨q, hq⟩ := second_some (bt a 0) (bt a 1)
      rw [hq, Option.bind_some]
      split
      · exact tail (by omega)
      · exact ⟨_, i, _, rfl, by omega, by omega, fun e => by cases e⟩
    · exact tail (by omega)
theorem cut_some (a : ByteArray) (h0 : 0 < a.size) (k : Nat) (hk : 10 ≤ k) : ∃ (r : Int) (w : Nat) (ok : Bool), selvedgeref02_Cut.f k a = some (r, ((w : Nat) : Int), ok) ∧ 1 ≤ w ∧ w ≤ 4 ∧ (ok = true → w ≤ a.size ∧ Sv.at' a (w - 1) ≤ 191) := by
  unfold selvedgeref02_Cut.f
  rw [if_pos (by omega)]
  have e0 : bt a 0 = (Sv.at' a 0 : Int) := bt_at' a 0 h0
  obtain ⟨n, hn, n0, n4, n1⟩ := size_some (bt a 0) k (by omega) (by omega)
  rw [hn, Option.bind_some]
  split
  · exact ⟨_, 1, _, rfl, by omega, by omega, fun e => by cases e⟩
  split
  · rename_i h1
    exact ⟨_, 1, _, rfl, by omega, by omega, fun _ => ⟨by omega, by have := n1 h1; simp only [Nat.sub_self]; omega⟩⟩
  · obtain ⟨n, rfl⟩ := Int.eq_ofNat_of_zero_le n0
    rw [w64 _ (by omega) (by omega), if_pos (by omega)]
    exact cutl_some a n h0 (by omega) (n - 1) 1 k _ rfl (by omega) (by omega) (by omega) (by omega) (by omega)
theorem at_drop (a : ByteArray) (i j : Nat) (h : i + j < a.size) : Sv.at' (a.extract i a.size) j = Sv.at' a (i + j) := by
  unfold Sv.at'
  have hs : j < (a.extract i a.size).size := by rw [ByteArray.size_extract]; omega
  congr 1
  have e1 : (a.extract i a.size).get! j = (a.extract i a.size)[j] := by
    show (a.extract i a.size).data[j]! = _
    exact getElem!_pos (a.extract i a.size).data j hs
  have e2 : a.get! (i + j) = a[i + j] := by
    show a.data[i + j]! = _
    exact getElem!_pos a.data (i + j) h
  rw [e1, e2, ByteArray.getElem_extract]
theorem well_go (a : ByteArray) (hs : a.size ≤ 1000000) : ∀ (n i k : Nat), a.size - i ≤ n → i ≤ a.size → n + 11 ≤ k → ∃ b, selvedgeref05_Well.l0 k a i = some b ∧ (b = true → i < a.size → Sv.at' a (a.size - 1) ≤ 191) := by
  intro n
  induction n with
  | zero =>
    intro i k h1 h2 h3
    obtain ⟨K, rfl⟩ : ∃ K, k = K + 1 := ⟨k - 1, by omega⟩
    unfold selvedgeref05_Well.l0
    rw [if_neg (by omega)]
    exact ⟨_, rfl, by omega⟩
  | succ n ih =>
    intro i k h1 h2 h3
    obtain ⟨K, rfl⟩ : ∃ K, k = K + 1 := ⟨k - 1, by omega⟩
    unfold selvedgeref05_Well.l0
    by_cases hi : i < a.size
    · rw [if_pos (by omega), if_pos (by omega), if_pos (by omega), Int.toNat_natCast]
      have hx : (a.extract i a.size).size = a.size - i := by rw [ByteArray.size_extract]; omega
      obtain ⟨r, w, ok, e, w1, w4, hok⟩ := cut_some (a.extract i a.size) (by omega) K (by omega)
      rw [e, Option.bind_some]
      dsimp only
      split
      · rename_i h
        obtain ⟨g1, g2⟩ := hok h
        split
        · exact ⟨_, rfl, fun e => by cases e⟩
        · rw [w64 _ (by omega) (by omega), show ((i : Int) + (w : Int)) = ((i + w : Nat) : Int) from by omega]
          obtain ⟨b, hb, hb2⟩ := ih (i + w) K (by omega) (by omega) (by omega)
          refine ⟨b, hb, fun e _ => ?_⟩
          by_cases hlast : i + w < a.size
          · exact hb2 e hlast
          · rw [at_drop a i (w - 1) (by omega)] at g2
            rw [show a.size - 1 = i + (w - 1) from by omega]
            exact g2
      · exact ⟨_, rfl, fun e => by cases e⟩
    · rw [if_neg (by omega)]
      exact ⟨_, rfl, by omega⟩
theorem well_some (a : ByteArray) (hs : a.size ≤ 1000000) (k : Nat) (hk : a.size + 11 ≤ k) : ∃ b, selvedgeref05_Well.f k a = some b ∧ (b = true → a.data.toList.getLast? ≠ some 0xC2) := by
  obtain ⟨b, h1, h2⟩ := well_go a hs a.size 0 k (by omega) (by omega) hk
  refine ⟨b, h1, fun e hl => ?_⟩
  have h0 : 0 < a.size := by
    rcases Nat.eq_zero_or_pos a.size with h | h
    · rw [← Sv.size_list, List.length_eq_zero_iff] at h
      rw [h] at hl; cases hl
    · exact h
  have := h2 e h0
  rw [List.getLast?_eq_getElem?, Sv.size_list] at hl
  have hd := Sv.drop_get a (a.size - 1) (by omega)
  have : (a.data.toList.drop (a.size - 1))[0]? = some 0xC2 := by rw [List.getElem?_drop]; exact hl
  rw [hd] at this
  have e2 : a.get! (a.size - 1) = 0xC2 := by simpa using this
  have e3 : Sv.at' a (a.size - 1) = 194 := by unfold Sv.at'; rw [e2]; rfl
  have e4 := h2 e h0
  omega
end Go.Proofs.YtpfhgolamlnhiaaGreatDoor.Pure
