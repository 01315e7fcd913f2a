/- The plain law of SerialJoins. -/
import Derived.Test.YtpfhgolamlnhiaaDoorWorks06
import Derived.Test.YtpfhgolamlnhiaaDoorLawA
import Derived.Test.YtpfhgolamlnhiaaDoorXF
set_option linter.unusedVariables false
namespace Go.Proofs.YtpfhgolamlnhiaaDoor.Pure
open Go.RowKit Go.Proofs.YtpfhgolamlnhiaaDoor Go.Proofs.YtpfhgolamlnhiaaDoorW.PrintWords Go.Proofs.YtpfhgolamlnhiaaDoor.XT Go.Proofs.YtpfhgolamlnhiaaDoor.XB Go.Proofs.YtpfhgolamlnhiaaDoor.XC Go.Proofs.YtpfhgolamlnhiaaDoor.XF

theorem esc_join (attr : Bool) (m : List UInt8) : ∀ (n : Nat) (l : List UInt8), l.length ≤ n → l.getLast? ≠ some 0xC2 → Sv.esc attr (l ++ m) = Sv.esc attr l ++ Sv.esc attr m
  | _, [], _, _ => by simp [Sv.esc]
  | _, [c], _, h => by
    have hc : c ≠ 0xC2 := by simpa using h
    rw [List.singleton_append, Sv.esc_cons attr c m (.inl hc), Sv.esc_cons attr c [] (.inl hc)]
    simp [Sv.esc]
  | 0, c :: d :: u, hn, h => by simp at hn
  | n + 1, c :: d :: u, hn, h => by
    simp only [List.length_cons] at hn
    by_cases e : c = 0xC2 ∧ d = 0xA0
    · obtain ⟨rfl, rfl⟩ := e
      rw [List.cons_append, List.cons_append, Sv.esc_nb, Sv.esc_nb, List.append_assoc]
      by_cases hu : u = []
      · subst hu; simp [Sv.esc]
      · rw [esc_join attr m n u (by omega) (by rw [List.getLast?_cons_cons, List.getLast?_cons] at h; rw [List.getLast?_eq_some_getLast hu] at h ⊢; simpa using h)]
    · have e1 : ∀ t : List UInt8, c ≠ 0xC2 ∨ (d :: t).head? ≠ some 0xA0 := by
        intro t
        by_cases h1 : c = 0xC2
        · right; simp; intro h2; exact e ⟨h1, h2⟩
        · exact .inl h1
      rw [List.cons_append, List.cons_append, Sv.esc_cons attr c _ (e1 _), Sv.esc_cons attr c _ (e1 _), ← List.cons_append, esc_join attr m n (d :: u) (by simp; omega) (by rw [List.getLast?_cons_cons] at h; exact h), List.append_assoc]

theorem size_some (b : Int) (k : Nat) (hk : 3 ≤ k) (hb : 0 ≤ b) : ∃ n, selvedgeref02_size.f k b = some n ∧ 0 ≤ n ∧ n ≤ 4 ∧ (n = 1 → b < 128) := by
  obtain ⟨k, rfl⟩ : ∃ m, k = m + 3 := ⟨k - 3, by omega⟩
  unfold selvedgeref02_size.f
  simp only [selvedgeref02_size.j0, selvedgeref02_size.j1]
  repeat' split
  all_goals exact ⟨_, rfl, by omega, by omega, by omega⟩
theorem second_some (a b : Int) : ∃ r, selvedgeref02_second.f a b = some r := by
  unfold selvedgeref02_second.f
  repeat' split
  all_goals exact ⟨_, rfl⟩
theorem cutl_some (a : ByteArray) (n : Nat) (h0 : 0 < a.size) (hn : n ≤ 4) : ∀ (d i k : Nat) (x : Int), n - i = d → 1 ≤ i → i ≤ n → (2 ≤ i → i ≤ a.size ∧ Sv.at' a (i - 1) ≤ 191) → (i = 1 → 1 < n) → d < k →
    ∃ (r : Int) (w : Nat) (ok : Bool), selvedgeref02_Cut.l0 k a n x i = some (r, ((w : Nat) : Int), ok) ∧ 1 ≤ w ∧ w ≤ 4 ∧ (ok = true → w ≤ a.size ∧ Sv.at' a (w - 1) ≤ 191) := by
  intro d
  induction d with
  | zero =>
    intro i k x h1 h2 h3 h4 h6 h5
    obtain ⟨K, rfl⟩ : ∃ K, k = K + 1 := ⟨k - 1, by omega⟩
    unfold selvedgeref02_Cut.l0
    rw [if_neg (by omega)]
    obtain rfl : i = n := by omega
    exact ⟨_, i, _, rfl, by omega, by omega, fun _ => h4 (by omega)⟩
  | succ d ih =>
    intro i k x h1 h2 h3 h4 h6 h5
    obtain ⟨K, rfl⟩ : ∃ K, k = K + 1 := ⟨k - 1, by omega⟩
    have tail : i < a.size → ∃ (r : Int) (w : Nat) (ok : Bool), (if 0 ≤ (i : Int) then (if (i : Int) < (a.size : Int) then (if (bt a i) < 128 then (some (65533, (i : Int), false)) else (if (bt a i) > 191 then (some (65533, (i : Int), false)) else (selvedgeref02_Cut.l0 K a n (Go.bits .or .i32 (wrap32 (x * 64)) (wrap32 (Go.bits .and .u8 (bt a i) 63))) (wrap64 ((i : Int) + 1))))) else none) else none) = some (r, ((w : Nat) : Int), ok) ∧ 1 ≤ w ∧ w ≤ 4 ∧ (ok = true → w ≤ a.size ∧ Sv.at' a (w - 1) ≤ 191) := by
      intro hi
      rw [if_pos (by omega), if_pos (by omega), bt_at' a i hi]
      split
      · exact ⟨_, i, _, rfl, by omega, by omega, fun e => by cases e⟩
      split
      · exact ⟨_, i, _, rfl, by omega, by omega, fun e => by cases e⟩
      · rw [w64 _ (by omega) (by omega), show ((i : Int) + 1) = ((i + 1 : Nat) : Int) from by omega]
        exact ih (i + 1) K _ (by omega) (by omega) (by omega) (fun _ => ⟨by omega, by rw [Nat.add_sub_cancel]; omega⟩) (by omega) (by omega)
    unfold selvedgeref02_Cut.l0
    rw [if_pos (by omega)]
    split
    · exact ⟨_, i, _, rfl, by omega, by omega, fun e => by cases e⟩
    split
    · rw [if_pos (by omega), if_pos (by omega)]
      obtain ⟨q, hq⟩ := second_some (bt a 0) (bt a 1)
      rw [hq, Option.bind_some]
      split
      · exact tail (by omega)
      · exact ⟨_, i, _, rfl, by omega, by omega, fun e => by cases e⟩
    · exact tail (by omega)
theorem cut_some (a : ByteArray) (h0 : 0 < a.size) (k : Nat) (hk : 10 ≤ k) : ∃ (r : Int) (w : Nat) (ok : Bool), selvedgeref02_Cut.f k a = some (r, ((w : Nat) : Int), ok) ∧ 1 ≤ w ∧ w ≤ 4 ∧ (ok = true → w ≤ a.size ∧ Sv.at' a (w - 1) ≤ 191) := by
  unfold selvedgeref02_Cut.f
  rw [if_pos (by omega)]
  have e0 : bt a 0 = (Sv.at' a 0 : Int) := bt_at' a 0 h0
  obtain ⟨n, hn, n0, n4, n1⟩ := size_some (bt a 0) k (by omega) (by omega)
  rw [hn, Option.bind_some]
  split
  · exact ⟨_, 1, _, rfl, by omega, by omega, fun e => by cases e⟩
  split
  · rename_i h1
    exact ⟨_, 1, _, rfl, by omega, by omega, fun _ => ⟨by omega, by have := n1 h1; simp only [Nat.sub_self]; omega⟩⟩
  · obtain ⟨n, rfl⟩ := Int.eq_ofNat_of_zero_le n0
    rw [w64 _ (by omega) (by omega), if_pos (by omega)]
    exact cutl_some a n h0 (by omega) (n - 1) 1 k _ rfl (by omega) (by omega) (by omega) (by omega) (by omega)
theorem at_drop (a : ByteArray) (i j : Nat) (h : i + j < a.size) : Sv.at' (a.extract i a.size) j = Sv.at' a (i + j) := by
  unfold Sv.at'
  have hs : j < (a.extract i a.size).size := by rw [ByteArray.size_extract]; omega
  congr 1
  have e1 : (a.extract i a.size).get! j = (a.extract i a.size)[j] := by
    show (a.extract i a.size).data[j]! = _
    exact getElem!_pos (a.extract i a.size).data j hs
  have e2 : a.get! (i + j) = a[i + j] := by
    show a.data[i + j]! = _
    exact getElem!_pos a.data (i + j) h
  rw [e1, e2, ByteArray.getElem_extract]
theorem well_go (a : ByteArray) (hs : a.size ≤ 1000000) : ∀ (n i k : Nat), a.size - i ≤ n → i ≤ a.size → n + 11 ≤ k → ∃ b, selvedgeref05_Well.l0 k a i = some b ∧ (b = true → i < a.size → Sv.at' a (a.size - 1) ≤ 191) := by
  intro n
  induction n with
  | zero =>
    intro i k h1 h2 h3
    obtain ⟨K, rfl⟩ : ∃ K, k = K + 1 := ⟨k - 1, by omega⟩
    unfold selvedgeref05_Well.l0
    rw [if_neg (by omega)]
    exact ⟨_, rfl, by omega⟩
  | succ n ih =>
    intro i k h1 h2 h3
    obtain ⟨K, rfl⟩ : ∃ K, k = K + 1 := ⟨k - 1, by omega⟩
    unfold selvedgeref05_Well.l0
    by_cases hi : i < a.size
    · rw [if_pos (by omega), if_pos (by omega), if_pos (by omega), Int.toNat_natCast]
      have hx : (a.extract i a.size).size = a.size - i := by rw [ByteArray.size_extract]; omega
      obtain ⟨r, w, ok, e, w1, w4, hok⟩ := cut_some (a.extract i a.size) (by omega) K (by omega)
      rw [e, Option.bind_some]
      dsimp only
      split
      · rename_i h
        obtain ⟨g1, g2⟩ := hok h
        split
        · exact ⟨_, rfl, fun e => by cases e⟩
        · rw [w64 _ (by omega) (by omega), show ((i : Int) + (w : Int)) = ((i + w : Nat) : Int) from by omega]
          obtain ⟨b, hb, hb2⟩ := ih (i + w) K (by omega) (by omega) (by omega)
          refine ⟨b, hb, fun e _ => ?_⟩
          by_cases hlast : i + w < a.size
          · exact hb2 e hlast
          · rw [at_drop a i (w - 1) (by omega)] at g2
            rw [show a.size - 1 = i + (w - 1) from by omega]
            exact g2
      · exact ⟨_, rfl, fun e => by cases e⟩
    · rw [if_neg (by omega)]
      exact ⟨_, rfl, by omega⟩
theorem well_some (a : ByteArray) (hs : a.size ≤ 1000000) (k : Nat) (hk : a.size + 11 ≤ k) : ∃ b, selvedgeref05_Well.f k a = some b ∧ (b = true → a.data.toList.getLast? ≠ some 0xC2) := by
  obtain ⟨b, h1, h2⟩ := well_go a hs a.size 0 k (by omega) (by omega) hk
  refine ⟨b, h1, fun e hl => ?_⟩
  have h0 : 0 < a.size := by
    rcases Nat.eq_zero_or_pos a.size with h | h
    · rw [← Sv.size_list, List.length_eq_zero_iff] at h
      rw [h] at hl; cases hl
    · exact h
  have := h2 e h0
  rw [List.getLast?_eq_getElem?, Sv.size_list] at hl
  have hd := Sv.drop_get a (a.size - 1) (by omega)
  have : (a.data.toList.drop (a.size - 1))[0]? = some 0xC2 := by rw [List.getElem?_drop]; exact hl
  rw [hd] at this
  have e2 : a.get! (a.size - 1) = 0xC2 := by simpa using this
  have e3 : Sv.at' a (a.size - 1) = 194 := by unfold Sv.at'; rw [e2]; rfl
  have e4 := h2 e h0
  omega
theorem j0_false (a b : ByteArray) (ha : a.size ≤ 2000) (hb : b.size ≤ 2000) (hl : a.data.toList.getLast? ≠ some 0xC2) (k : Nat) (hk : 61 ≤ k) : selvedgelaw06_SerialJoins.j0 k a b false = some true := by
  obtain ⟨K, rfl⟩ : ∃ K, k = K + 1 := ⟨k - 1, by omega⟩
  rw [selvedgelaw06_SerialJoins.j0]
  have hsz : (a ++ b).size = a.size + b.size := ByteArray.size_append
  have key : ∀ attr, (⟨(Sv.esc attr (a ++ b).data.toList).toArray⟩ : ByteArray) = ⟨(Sv.esc attr a.data.toList).toArray⟩ ++ ⟨(Sv.esc attr b.data.toList).toArray⟩ := by
    intro attr
    apply ByteArray.ext
    rw [ByteArray.data_append, ByteArray.data_append, Array.toList_append, esc_join attr _ _ _ (Nat.le_refl _) hl]
    simp
  have bnd : ∀ attr, (⟨(Sv.esc attr a.data.toList).toArray⟩ : ByteArray).size + (⟨(Sv.esc attr b.data.toList).toArray⟩ : ByteArray).size ≤ 9223372036854775807 := by
    intro attr
    have l1 := Sv.esc_len attr a.data.toList
    have l2 := Sv.esc_len attr b.data.toList
    rw [Sv.size_list] at l1 l2
    simp only [ByteArray.size, List.size_toArray] at *
    omega
  rw [if_neg (by decide), if_pos (by omega)]
  have x1 : ∀ s : ByteArray, s.size ≤ 4000 → x_Escape.f s = some ⟨(Sv.esc false s.data.toList).toArray⟩ := fun s h => by unfold x_Escape.f; exact if_pos (by omega)
  have x2 : ∀ s : ByteArray, s.size ≤ 4000 → x_EscapeAttr.f s = some ⟨(Sv.esc true s.data.toList).toArray⟩ := fun s h => by unfold x_EscapeAttr.f; exact if_pos (by omega)
  rw [x1 _ (by omega), x1 a (by omega), x1 b (by omega), x2 _ (by omega), x2 a (by omega), x2 b (by omega)]
  simp only [Option.bind_some]
  rw [if_pos (bnd false), if_pos (by rw [key false]), if_pos (bnd true), if_pos (by rw [key true]), works06_le K (by omega)]
  rfl
theorem j0_true (a b : ByteArray) (k : Nat) (hk : 61 ≤ k) : selvedgelaw06_SerialJoins.j0 k a b true = some true := by
  obtain ⟨K, rfl⟩ : ∃ K, k = K + 1 := ⟨k - 1, by omega⟩
  rw [selvedgelaw06_SerialJoins.j0]
  rw [if_pos rfl, works06_le K (by omega)]
  rfl
theorem SerialJoins (a0 a1 : ByteArray) : ∃ k, selvedgelaw06_SerialJoins.f k a0 a1 = some true := by
  obtain ⟨k, hk⟩ : ∃ k, k = 4000 := ⟨_, rfl⟩
  refine ⟨k, ?_⟩
  unfold selvedgelaw06_SerialJoins.f
  split
  · exact j0_true _ _ k (by omega)
  split
  · exact j0_true _ _ k (by omega)
  · obtain ⟨b0, e0, l0⟩ := well_some a0 (by omega) k (by omega)
    obtain ⟨b1, e1, _⟩ := well_some a1 (by omega) k (by omega)
    rw [e0, Option.bind_some]
    split
    · rename_i h
      rw [e1, Option.bind_some]
      cases b1
      · exact j0_true _ _ k (by omega)
      · exact j0_false _ _ (by omega) (by omega) (l0 h) k (by omega)
    · exact j0_true _ _ k (by omega)
end Go.Proofs.YtpfhgolamlnhiaaDoor.Pure
