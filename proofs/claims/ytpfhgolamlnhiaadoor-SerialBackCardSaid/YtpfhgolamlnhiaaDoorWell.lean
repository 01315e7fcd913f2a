/- Whether a text is well-formed: the reference's function answers; what is well-formed ends in no C2. -/
import Derived.Test.YtpfhgolamlnhiaaDoorLawB
import Derived.Test.YtpfhgolamlnhiaaDoorXF
set_option linter.unusedVariables false
namespace Go.Proofs.YtpfhgolamlnhiaaDoor.Pure
open Go.RowKit Go.Proofs.YtpfhgolamlnhiaaDoor Go.Proofs.YtpfhgolamlnhiaaDoorW.PrintWords Go.Proofs.YtpfhgolamlnhiaaDoor.XT Go.Proofs.YtpfhgolamlnhiaaDoor.XB Go.Proofs.YtpfhgolamlnhiaaDoor.XF

theorem size_some (b : Int) (k : Nat) (hk : 3 ≤ k) (hb : 0 ≤ b) : ∃ n, selvedgeref02_size.f k b = some n ∧ 0 ≤ n ∧ n ≤ 4 ∧ (n = 1 → b < 128) := by
  obtain ⟨k, rfl⟩ : ∃ m, k = m + 3 := ⟨k - 3, by omega⟩
  unfold selvedgeref02_size.f
  simp only [selvedgeref02_size.j0, selvedgeref02_size.j1]
  repeat' split
  all_goals exact ⟨_, rfl, by omega, by omega, by omega⟩
theorem second_some (a b : Int) : ∃ r, selvedgeref02_second.f a b = some r := by
  unfold selvedgeref02_second.f
  repeat' split
  all_goals exact ⟨_, rfl⟩
theorem cutl_some (a : ByteArray) (n : Nat) (h0 : 0 < a.size) (hn : n ≤ 4) : ∀ (d i k : Nat) (x : Int), n - i = d → 1 ≤ i → i ≤ n → (2 ≤ i → i ≤ a.size ∧ Sv.at' a (i - 1) ≤ 191) → (i = 1 → 1 < n) → d < k →
    ∃ (r : Int) (w : Nat) (ok : Bool), selvedgeref02_Cut.l0 k a n x i = some (r, ((w : Nat) : Int), ok) ∧ 1 ≤ w ∧ w ≤ 4 ∧ (ok = true → w ≤ a.size ∧ Sv.at' a (w - 1) ≤ 191) := by
  intro d
  induction d with
  | zero =>
    intro i k x h1 h2 h3 h4 h6 h5
    obtain ⟨K, rfl⟩ : ∃ K, k = K + 1 := ⟨k - 1, by omega⟩
    unfold selvedgeref02_Cut.l0
    rw [if_neg (by omega)]
    obtain rfl : i = n := by omega
    exact ⟨_, i, _, rfl, by omega, by omega, fun _ => h4 (by omega)⟩
  | succ d ih =>
    intro i k x h1 h2 h3 h4 h6 h5
    obtain ⟨K, rfl⟩ : ∃ K, k = K + 1 := ⟨k - 1, by omega⟩
    have tail : i < a.size → ∃ (r : Int) (w : Nat) (ok : Bool), (if 0 ≤ (i : Int) then (if (i : Int) < (a.size : Int) then (if (bt a i) < 128 then (some (65533, (i : Int), false)) else (if (bt a i) > 191 then (some (65533, (i : Int), false)) else (selvedgeref02_Cut.l0 K a n (Go.bits .or .i32 (wrap32 (x * 64)) (wrap32 (Go.bits .and .u8 (bt a i) 63))) (wrap64 ((i : Int) + 1))))) else none) else none) = some (r, ((w : Nat) : Int), ok) ∧ 1 ≤ w ∧ w ≤ 4 ∧ (ok = true → w ≤ a.size ∧ Sv.at' a (w - 1) ≤ 191) := by
      intro hi
      rw [if_pos (by omega), if_pos (by omega), bt_at' a i hi]
      split
      · exact ⟨_, i, _, rfl, by omega, by omega, fun e => by cases e⟩
      split
      · exact ⟨_, i, _, rfl, by omega, by omega, fun e => by cases e⟩
      · rw [w64 _ (by omega) (by omega), show ((i : Int) + 1) = ((i + 1 : Nat) : Int) from by omega]
        exact ih (i + 1) K _ (by omega) (by omega) (by omega) (fun _ => ⟨by omega, by rw [Nat.add_sub_cancel]; omega⟩) (by omega) (by omega)
    unfold selvedgeref02_Cut.l0
    rw [if_pos (by omega)]
    split
    · exact ⟨_, i, _, rfl, by omega, by omega, fun e => by cases e⟩
    split
    · rw [if_pos (by omega), if_pos (by omega)]
      obtain ⟨q, hq⟩ := second_some (bt a 0) (bt a 1)
      rw [hq, Option.bind_some]
      split
      · exact tail (by omega)
      · exact ⟨_, i, _, rfl, by omega, by omega, fun e => by cases e⟩
    · exact tail (by omega)
theorem cut_some (a : ByteArray) (h0 : 0 < a.size) (k : Nat) (hk : 10 ≤ k) : ∃ (r : Int) (w : Nat) (ok : Bool), selvedgeref02_Cut.f k a = some (r, ((w : Nat) : Int), ok) ∧ 1 ≤ w ∧ w ≤ 4 ∧ (ok = true → w ≤ a.size ∧ Sv.at' a (w - 1) ≤ 191) := by
  unfold selvedgeref02_Cut.f
  rw [if_pos (by omega)]
  have e0 : bt a 0 = (Sv.at' a 0 : Int) := bt_at' a 0 h0
  obtain ⟨n, hn, n0, n4, n1⟩ := size_some (bt a 0) k (by omega) (by omega)
  rw [hn, Option.bind_some]
  split
  · exact ⟨_, 1, _, rfl, by omega, by omega, fun e => by cases e⟩
  split
  · rename_i h1
    exact ⟨_, 1, _, rfl, by omega, by omega, fun _ => ⟨by omega, by have := n1 h1; simp only [Nat.sub_self]; omega⟩⟩
  · obtain ⟨n, rfl⟩ := Int.eq_ofNat_of_zero_le n0
    rw [w64 _ (by omega) (by omega), if_pos (by omega)]
    exact cutl_some a n h0 (by omega) (n - 1) 1 k _ rfl (by omega) (by omega) (by omega) (by omega) (by omega)
theorem at_drop (a : ByteArray) (i j : Nat) (h : i + j < a.size) : Sv.at' (a.extract i a.size) j = Sv.at' a (i + j) := by
  unfold Sv.at'
  have hs : j < (a.extract i a.size).size := by rw [ByteArray.size_extract]; omega
  congr 1
  have e1 : (a.extract i a.size).get! j = (a.extract i a.size)[j] := by
    show (a.extract i a.size).data[j]! = _
    exact getElem!_pos (a.extract i a.size).data j hs
  have e2 : a.get! (i + j) = a[i + j] := by
    show a.data[i + j]! = _
    exact getElem!_pos a.data (i + j) h
  rw [e1, e2, ByteArray.getElem_extract]
theorem well_go (a : ByteArray) (hs : a.size ≤ 1000000) : ∀ (n i k : Nat), a.size - i ≤ n → i ≤ a.size → n + 11 ≤ k → ∃ b, selvedgeref05_Well.l0 k a i = some b ∧ (b = true → i < a.size → Sv.at' a (a.size - 1) ≤ 191) := by
  intro n
  induction n with
  | zero =>
    intro i k h1 h2 h3
    obtain ⟨K, rfl⟩ : ∃ K, k = K + 1 := ⟨k - 1, by omega⟩
    unfold selvedgeref05_Well.l0
    rw [if_neg (by omega)]
    exact ⟨_, rfl, by omega⟩
  | succ n ih =>
    intro i k h1 h2 h3
    obtain ⟨K, rfl⟩ : ∃ K, k = K + 1 := ⟨k - 1, by omega⟩
    unfold selvedgeref05_Well.l0
    by_cases hi : i < a.size
    · rw [if_pos (by omega), if_pos (by omega), if_pos (by omega), Int.toNat_natCast]
      have hx : (a.extract i a.size).size = a.size - i := by rw [ByteArray.size_extract]; omega
      obtain ⟨r, w, ok, e, w1, w4, hok⟩ := cut_some (a.extract i a.size) (by omega) K (by omega)
      rw [e, Option.bind_some]
      dsimp only
      split
      · rename_i h
        obtain ⟨g1, g2⟩ := hok h
        split
        · exact ⟨_, rfl, fun e => by cases e⟩
        · rw [w64 _ (by omega) (by omega), show ((i : Int) + (w : Int)) = ((i + w : Nat) : Int) from by omega]
          obtain ⟨b, hb, hb2⟩ := ih (i + w) K (by omega) (by omega) (by omega)
          refine ⟨b, hb, fun e _ => ?_⟩
          by_cases hlast : i + w < a.size
          · exact hb2 e hlast
          · rw [at_drop a i (w - 1) (by omega)] at g2
            rw [show a.size - 1 = i + (w - 1) from by omega]
            exact g2
      · exact ⟨_, rfl, fun e => by cases e⟩
    · rw [if_neg (by omega)]
      exact ⟨_, rfl, by omega⟩
theorem well_some (a : ByteArray) (hs : a.size ≤ 1000000) (k : Nat) (hk : a.size + 11 ≤ k) : ∃ b, selvedgeref05_Well.f k a = some b ∧ (b = true → a.data.toList.getLast? ≠ some 0xC2) := by
  obtain ⟨b, h1, h2⟩ := well_go a hs a.size 0 k (by omega) (by omega) hk
  refine ⟨b, h1, fun e hl => ?_⟩
  have h0 : 0 < a.size := by
    rcases Nat.eq_zero_or_pos a.size with h | h
    · rw [← Sv.size_list, List.length_eq_zero_iff] at h
      rw [h] at hl; cases hl
    · exact h
  have := h2 e h0
  rw [List.getLast?_eq_getElem?, Sv.size_list] at hl
  have hd := Sv.drop_get a (a.size - 1) (by omega)
  have : (a.data.toList.drop (a.size - 1))[0]? = some 0xC2 := by rw [List.getElem?_drop]; exact hl
  rw [hd] at this
  have e2 : a.get! (a.size - 1) = 0xC2 := by simpa using this
  have e3 : Sv.at' a (a.size - 1) = 194 := by unfold Sv.at'; rw [e2]; rfl
  have e4 := h2 e h0
  omega
end Go.Proofs.YtpfhgolamlnhiaaDoor.Pure
