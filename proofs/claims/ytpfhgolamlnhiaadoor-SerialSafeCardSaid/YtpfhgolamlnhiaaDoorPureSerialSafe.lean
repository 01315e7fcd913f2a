/- The plain law of SerialSafe. -/
import Derived.Test.YtpfhgolamlnhiaaDoorWorks06
import Derived.Test.YtpfhgolamlnhiaaDoorLawA
import Derived.Test.YtpfhgolamlnhiaaDoorSafe
import Derived.Test.YtpfhgolamlnhiaaDoorXE
set_option linter.unusedVariables false
namespace Go.Proofs.YtpfhgolamlnhiaaDoor.Pure
open Go.RowKit Go.Proofs.YtpfhgolamlnhiaaDoor Go.Proofs.YtpfhgolamlnhiaaDoorW.PrintWords Go.Proofs.YtpfhgolamlnhiaaDoor.XT Go.Proofs.YtpfhgolamlnhiaaDoor.XA Go.Proofs.YtpfhgolamlnhiaaDoor.XB Go.Proofs.YtpfhgolamlnhiaaDoor.XC Go.Proofs.YtpfhgolamlnhiaaDoor.XE

theorem ext_take (s : ByteArray) (n : Nat) : (s.extract 0 n).data.toList = s.data.toList.take n := by
  simp [ByteArray.data_extract, Array.toList_extract, List.extract]
theorem ext_drop (s : ByteArray) (n : Nat) : (s.extract n s.size).data.toList = s.data.toList.drop n := by
  simp only [ByteArray.data_extract, Array.toList_extract, List.extract]
  rw [List.take_of_length_le]
  rw [List.length_drop]
  exact Nat.le_refl _
theorem begins_go (s : ByteArray) (L : List ByteArray) (hL : L.length ≤ 1000) : ∀ (d j k : Nat), L.length - j = d → d < k → (∃ m, j ≤ m ∧ m < L.length ∧ (L.getD m ByteArray.empty).data.toList <+: s.data.toList) →
    selvedgelaw06_begins.l0 k s L j = some true := by
  intro d
  induction d with
  | zero => rintro j k h1 h2 ⟨m, h3, h4, _⟩; omega
  | succ d ih =>
    rintro j k h1 h2 ⟨m, h3, h4, h5⟩
    obtain ⟨K, rfl⟩ : ∃ K, k = K + 1 := ⟨k - 1, by omega⟩
    have next : (selvedgelaw06_begins.l0 K s L (wrap64 ((j : Int) + 1)) = some true) ∨ j = m := by
      by_cases e : j = m
      · exact .inr e
      · left
        rw [w64 _ (by omega) (by omega)]
        exact_mod_cast ih (j + 1) K (by omega) (by omega) ⟨m, by omega, h4, h5⟩
    have hr : rdOf ByteArray.empty L (j : Int) = L.getD j ByteArray.empty := by rw [rdOf, Int.toNat_natCast]
    unfold selvedgelaw06_begins.l0
    rw [if_pos (by omega), if_pos (by omega), hr]
    rcases next with hn | e
    · generalize L.getD j ByteArray.empty = p
      rw [hn]
      repeat' split
      all_goals first | rfl | omega
    · subst e
      generalize L.getD j ByteArray.empty = p at h5
      have hsz : p.size ≤ s.size := by
        have := h5.length_le
        rw [Sv.size_list, Sv.size_list] at this
        exact this
      have he : s.extract 0 ((p.size : Int)).toNat = p := by
        rw [Int.toNat_natCast]
        apply ByteArray.ext
        apply Array.toList_inj.1
        rw [ext_take]
        have := List.prefix_iff_eq_take.1 h5
        rw [Sv.size_list] at this
        exact this.symm
      rw [if_pos (by omega), if_pos (by omega), if_pos (by omega), if_pos (by rw [he])]
theorem begins_some (s : ByteArray) (k : Nat) (hk : 10 ≤ k) (h : ∃ p ∈ Sv.refs, p <+: s.data.toList) : selvedgelaw06_begins.f k s = some true := by
  unfold selvedgelaw06_begins.f
  obtain ⟨p, hp, hs⟩ := h
  refine begins_go s _ (by decide) 6 0 k rfl (by omega) ?_
  simp only [Sv.refs, List.mem_cons, List.not_mem_nil, or_false] at hp
  rcases hp with rfl | rfl | rfl | rfl | rfl | rfl
  · exact ⟨0, by omega, by decide, hs⟩
  · exact ⟨1, by omega, by decide, hs⟩
  · exact ⟨2, by omega, by decide, hs⟩
  · exact ⟨3, by omega, by decide, hs⟩
  · exact ⟨4, by omega, by decide, hs⟩
  · exact ⟨5, by omega, by decide, hs⟩
theorem safe_at {attr : Bool} {s : ByteArray} (h : Sv.Safe attr s.data.toList) (j : Nat) (hj : j < s.size) :
    Sv.bad attr (s.get! j) = false ∧ (Sv.at' s j = 38 → ∀ k, 10 ≤ k → selvedgelaw06_begins.f k (s.extract j s.size) = some true) := by
  have e := Sv.drop_get s j hj
  obtain ⟨h1, h2⟩ := h j _ _ e
  refine ⟨h1, fun e38 k hk => begins_some _ k hk ?_⟩
  obtain ⟨p, hp, h3⟩ := h2 (UInt8.toNat_inj.1 e38)
  exact ⟨p, hp, by rw [ext_drop, e]; exact h3⟩
theorem bad_t (c : UInt8) (h : Sv.bad false c = false) : c.toNat ≠ 60 ∧ c.toNat ≠ 62 ∧ c.toNat ≠ 13 := by
  refine ⟨?_, ?_, ?_⟩ <;> intro e
  · obtain rfl : c = 60 := UInt8.toNat_inj.1 e
    cases h
  · obtain rfl : c = 62 := UInt8.toNat_inj.1 e
    cases h
  · obtain rfl : c = 13 := UInt8.toNat_inj.1 e
    cases h
theorem bad_v (c : UInt8) (h : Sv.bad true c = false) : c.toNat ≠ 34 ∧ c.toNat ≠ 13 := by
  refine ⟨?_, ?_⟩ <;> intro e
  · obtain rfl : c = 34 := UInt8.toNat_inj.1 e
    cases h
  · obtain rfl : c = 13 := UInt8.toNat_inj.1 e
    cases h
theorem l1_some (b : ByteArray) (hb : Sv.Safe true b.data.toList) (hs : b.size ≤ 1000000) : ∀ (d j k : Nat), b.size - j = d → j ≤ b.size → d + 62 ≤ k → selvedgelaw06_SerialSafe.l1 k b j = some true := by
  intro d
  induction d with
  | zero =>
    intro j k h1 h0 h2
    obtain ⟨K, rfl⟩ : ∃ K, k = K + 1 := ⟨k - 1, by omega⟩
    unfold selvedgelaw06_SerialSafe.l1
    rw [if_neg (by omega), works06_le K (by omega)]
    rfl
  | succ d ih =>
    intro j k h1 h0 h2
    obtain ⟨K, rfl⟩ : ∃ K, k = K + 1 := ⟨k - 1, by omega⟩
    have hj : j < b.size := by omega
    obtain ⟨g1, g2⟩ := safe_at hb j hj
    obtain ⟨n1, n2⟩ := bad_v _ g1
    have next : selvedgelaw06_SerialSafe.l1 K b (wrap64 ((j : Int) + 1)) = some true := by
      rw [w64 _ (by omega) (by omega)]
      exact_mod_cast ih (j + 1) K (by omega) (by omega) (by omega)
    unfold selvedgelaw06_SerialSafe.l1
    rw [if_pos (by omega), if_pos (by omega), bt_at' b j hj, if_neg (by unfold Sv.at'; omega), if_neg (by unfold Sv.at'; omega)]
    split
    · rename_i h38
      rw [if_pos (by omega), Int.toNat_natCast, g2 (by omega) K (by omega), Option.bind_some, if_pos rfl]
      exact next
    · exact next
theorem l0_some (a b : ByteArray) (ha : Sv.Safe false a.data.toList) (hb : Sv.Safe true b.data.toList) (hs : a.size ≤ 1000000) (hs' : b.size ≤ 1000000) : ∀ (d j k : Nat), a.size - j = d → j ≤ a.size → d + b.size + 63 ≤ k →
    selvedgelaw06_SerialSafe.l0 k a b j = some true := by
  intro d
  induction d with
  | zero =>
    intro j k h1 h0 h2
    obtain ⟨K, rfl⟩ : ∃ K, k = K + 1 := ⟨k - 1, by omega⟩
    unfold selvedgelaw06_SerialSafe.l0
    rw [if_neg (by omega)]
    exact l1_some b hb hs' b.size 0 K (by omega) (by omega) (by omega)
  | succ d ih =>
    intro j k h1 h0 h2
    obtain ⟨K, rfl⟩ : ∃ K, k = K + 1 := ⟨k - 1, by omega⟩
    have hj : j < a.size := by omega
    obtain ⟨g1, g2⟩ := safe_at ha j hj
    obtain ⟨n1, n2, n3⟩ := bad_t _ g1
    have next : selvedgelaw06_SerialSafe.l0 K a b (wrap64 ((j : Int) + 1)) = some true := by
      rw [w64 _ (by omega) (by omega)]
      exact_mod_cast ih (j + 1) K (by omega) (by omega) (by omega)
    unfold selvedgelaw06_SerialSafe.l0
    rw [if_pos (by omega), if_pos (by omega), bt_at' a j hj, if_neg (by unfold Sv.at'; omega), if_neg (by unfold Sv.at'; omega), if_neg (by unfold Sv.at'; omega)]
    split
    · rename_i h38
      rw [if_pos (by omega), Int.toNat_natCast, g2 (by omega) K (by omega), Option.bind_some, if_pos rfl]
      exact next
    · exact next
theorem SerialSafe (a0 : ByteArray) : ∃ k, selvedgelaw06_SerialSafe.f k a0 = some true := by
  obtain ⟨k, hk⟩ : ∃ k, k = 40000 := ⟨_, rfl⟩
  refine ⟨k, ?_⟩
  have hw := works06_le k (by omega)
  unfold selvedgelaw06_SerialSafe.f
  split
  · rw [hw]; rfl
  · rename_i hs
    unfold x_Escape.f x_EscapeAttr.f
    rw [if_pos (by omega), if_pos (by omega)]
    simp only [Option.bind_some]
    have l1 := Sv.esc_len false a0.data.toList
    have l2 := Sv.esc_len true a0.data.toList
    rw [Sv.size_list] at l1 l2
    refine l0_some _ _ (Sv.safe_esc _ _ _ (Nat.le_refl _)) (Sv.safe_esc _ _ _ (Nat.le_refl _)) ?_ ?_ _ 0 _ rfl (by omega) ?_ <;> simp only [ByteArray.size, List.size_toArray] <;> omega
end Go.Proofs.YtpfhgolamlnhiaaDoor.Pure
