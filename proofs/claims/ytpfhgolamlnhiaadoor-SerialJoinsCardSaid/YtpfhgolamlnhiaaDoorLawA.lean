/- The plain law of escaping: what the reference's function answers. -/
import Derived.Test.YtpfhgolamlnhiaaDoorXA
import Derived.Test.YtpfhgolamlnhiaaDoorEsc2
set_option linter.unusedVariables false
set_option linter.unusedSimpArgs false
namespace Go.Proofs.YtpfhgolamlnhiaaDoor
open Go.RowKit Go.Proofs.YtpfhgolamlnhiaaDoorW.PrintWords Go.Proofs.YtpfhgolamlnhiaaDoor.XT Go.Proofs.YtpfhgolamlnhiaaDoor.XA

/-- Bytes as numbers. -/
def nu (l : List UInt8) : List Int := l.map fun b => (b.toNat : Int)
theorem nu_app (a b : List UInt8) : nu (a ++ b) = nu a ++ nu b := List.map_append
theorem nu_len (a : List UInt8) : (nu a).length = a.length := List.length_map _
theorem bytesOf_mk (l : List UInt8) : bytesOf ⟨l.toArray⟩ = nu l := rfl
theorem w64 (x : Int) (h : 0 ≤ x) (h' : x ≤ 1000000000000) : wrap64 x = x := by unfold wrap64; omega
theorem bt_at' (s : ByteArray) (i : Nat) (h : i < s.size) : bt s (i : Int) = (Sv.at' s i : Int) := by
  unfold bt Sv.at'
  simp only [Int.toNat_natCast]
  rw [dif_pos h]
  have : s[i] = s.get! i := by
    show s.data[i] = s.data[i]!
    rw [getElem!_pos s.data i h]
  rw [this]
theorem strOf_nu (l : List UInt8) : strOfNums (nu l) = ⟨l.toArray⟩ := by
  unfold strOfNums nu
  simp only [List.map_map]
  congr 2
  rw [show ((fun n : Int => UInt8.ofNat n.toNat) ∘ fun b : UInt8 => (b.toNat : Int)) = id from funext fun b => by simp]
  exact List.map_id _
theorem esc1_nat (attr : Bool) (c : UInt8) : Sv.esc1 attr c = if c.toNat = 38 then [38, 97, 109, 112, 59] else if c.toNat = 13 then [38, 35, 49, 51, 59] else if c.toNat = 60 then (if attr then [c] else [38, 108, 116, 59])
    else if c.toNat = 62 then (if attr then [c] else [38, 103, 116, 59]) else if c.toNat = 34 then (if attr then [38, 113, 117, 111, 116, 59] else [c]) else [c] := by
  have key : ∀ n : Nat, n < 256 → ∀ a : Bool, Sv.esc1 a (UInt8.ofNat n) = if n = 38 then [38, 97, 109, 112, 59] else if n = 13 then [38, 35, 49, 51, 59] else if n = 60 then (if a then [UInt8.ofNat n] else [38, 108, 116, 59])
    else if n = 62 then (if a then [UInt8.ofNat n] else [38, 103, 116, 59]) else if n = 34 then (if a then [38, 113, 117, 111, 116, 59] else [UInt8.ofNat n]) else [UInt8.ofNat n] := by decide +kernel
  have := key c.toNat c.toNat_lt attr
  rwa [UInt8.ofNat_toNat] at this

theorem refEsc (attr : Bool) (s : ByteArray) (hs : s.size ≤ 100000000) : ∀ (d K i : Nat) (L : List UInt8), s.size - i = d → i ≤ s.size → 4 * d + 4 ≤ K → L.length ≤ 6 * i →
    selvedgeref06_Escape.l0 K s attr (nu L) (i : Int) = some ⟨(L ++ Sv.esc attr (s.data.toList.drop i)).toArray⟩ := by
  intro d
  induction d using Nat.strongRecOn with
  | _ d ih =>
  intro K i L hd hi hK hL
  obtain ⟨K, rfl⟩ : ∃ m, K = m + 1 := ⟨K - 1, by omega⟩
  simp only [selvedgeref06_Escape.l0]
  by_cases hlt : i < s.size
  · rw [if_pos (by omega : (i : Int) < (s.size : Int)), if_pos (by omega : (0 : Int) ≤ (i : Int)), bt_at' s i hlt, w64 ((i : Int) + 1) (by omega) (by omega)]
    have hb : Sv.at' s i < 256 := (s.get! i).toNat_lt
    have hlen : (nu L).length ≤ 600000000 := by rw [nu_len]; omega
    have hdrop := Sv.drop_get s i hlt
    -- a byte alone
    have one : ∀ (K' : Nat) (e : List UInt8), 4 * d ≤ K' → e.length ≤ 6 → Sv.esc attr (s.data.toList.drop i) = e ++ Sv.esc attr (s.data.toList.drop (i + 1)) →
        selvedgeref06_Escape.l0 K' s attr (nu L ++ nu e) ((i : Int) + 1) = some ⟨(L ++ Sv.esc attr (s.data.toList.drop i)).toArray⟩ := by
      intro K' e hK' he hesc
      have := ih (d - 1) (by omega) K' (i + 1) (L ++ e) (by omega) (by omega) (by omega) (by rw [List.length_append]; omega)
      rw [← nu_app, hesc, ← List.append_assoc, ← this]
      rfl
    -- the rest, where no 160 begins here
    have rest : (s.get! i ≠ 0xC2 ∨ (s.data.toList.drop (i + 1)).head? ≠ some 0xA0) → ∀ K', 4 * d + 3 ≤ K' → Sv.at' s i ≠ 38 →
        selvedgeref06_Escape.j1 K' s attr (nu L) (i : Int) (Sv.at' s i : Int) false = some ⟨(L ++ Sv.esc attr (s.data.toList.drop i)).toArray⟩ := by
      intro hne K' hK' h38
      have hesc : Sv.esc attr (s.data.toList.drop i) = Sv.esc1 attr (s.get! i) ++ Sv.esc attr (s.data.toList.drop (i + 1)) := by rw [hdrop, Sv.esc_cons attr _ _ hne]
      obtain ⟨K', rfl⟩ : ∃ m, K' = m + 1 := ⟨K' - 1, by omega⟩
      simp only [selvedgeref06_Escape.j1]
      rw [if_neg (by simp), w64 ((i : Int) + 1) (by omega) (by omega)]
      rw [esc1_nat] at hesc
      have hc : (s.get! i).toNat = Sv.at' s i := rfl
      rw [hc, if_neg h38] at hesc
      by_cases h13 : Sv.at' s i = 13
      · rw [if_pos h13] at hesc
        rw [if_pos (by omega), if_pos (by omega), show bytesOf (⟨#[38, 35, 49, 51, 59]⟩ : ByteArray) = nu [38, 35, 49, 51, 59] from rfl]
        exact one _ _ (by omega) (by decide) hesc
      rw [if_neg h13] at hesc
      rw [if_neg (by omega)]
      have plain : ∀ K'', 4 * d ≤ K'' → Sv.esc attr (s.data.toList.drop i) = [s.get! i] ++ Sv.esc attr (s.data.toList.drop (i + 1)) → selvedgeref06_Escape.l0 K'' s attr (nu L ++ [(Sv.at' s i : Int)]) ((i : Int) + 1) = some ⟨(L ++ Sv.esc attr (s.data.toList.drop i)).toArray⟩ := by
        intro K'' hK'' he
        have := one K'' [s.get! i] hK'' (by simp) he
        exact this
      -- j3
      have j3 : ∀ (K'' : Nat) (b : Bool), 4 * d + 1 ≤ K'' → b = (decide (Sv.at' s i = 62) && !attr) → Sv.at' s i ≠ 60 ∨ attr = true →
          selvedgeref06_Escape.j3 K'' s attr (nu L) (i : Int) (Sv.at' s i : Int) b = some ⟨(L ++ Sv.esc attr (s.data.toList.drop i)).toArray⟩ := by
        intro K'' b hK'' hb h60
        obtain ⟨K'', rfl⟩ : ∃ m, K'' = m + 1 := ⟨K'' - 1, by omega⟩
        simp only [selvedgeref06_Escape.j3]
        rw [w64 ((i : Int) + 1) (by omega) (by omega)]
        have n60 : Sv.esc attr (s.data.toList.drop i) = (if Sv.at' s i = 62 then (if attr then [s.get! i] else [38, 103, 116, 59]) else if Sv.at' s i = 34 then (if attr then [38, 113, 117, 111, 116, 59] else [s.get! i]) else [s.get! i]) ++ Sv.esc attr (s.data.toList.drop (i + 1)) := by
          rw [hesc]
          rcases h60 with h60 | h60
          · rw [if_neg h60]
          · subst h60
            by_cases e60 : Sv.at' s i = 60
            · simp [e60]
            · rw [if_neg e60]
        by_cases h62 : Sv.at' s i = 62
        · rw [if_pos h62] at n60
          cases attr with
          | false =>
            have hb' : b = true := by rw [hb]; simp [h62]
            rw [if_pos hb', if_pos (by omega), show bytesOf (⟨#[38, 103, 116, 59]⟩ : ByteArray) = nu [38, 103, 116, 59] from rfl]
            exact one _ _ (by omega) (by decide) n60
          | true =>
            have hb' : ¬ b = true := by rw [hb]; simp
            rw [if_neg hb', if_neg (by omega), if_pos (by omega)]
            exact plain _ (by omega) n60
        · rw [if_neg h62] at n60
          have hb' : ¬ b = true := by rw [hb]; simp [h62]
          rw [if_neg hb']
          by_cases h34 : Sv.at' s i = 34
          · rw [if_pos h34] at n60
            rw [if_pos (by omega)]
            cases attr with
            | false =>
              rw [if_neg (by decide), if_pos (by omega)]
              exact plain _ (by omega) n60
            | true =>
              rw [if_pos rfl, if_pos (by omega), show bytesOf (⟨#[38, 113, 117, 111, 116, 59]⟩ : ByteArray) = nu [38, 113, 117, 111, 116, 59] from rfl]
              exact one _ _ (by omega) (by decide) n60
          · rw [if_neg h34] at n60
            rw [if_neg (by omega), if_pos (by omega)]
            exact plain _ (by omega) n60
      -- j2
      have j2 : ∀ (K'' : Nat) (b : Bool), 4 * d + 2 ≤ K'' → b = (decide (Sv.at' s i = 60) && !attr) →
          selvedgeref06_Escape.j2 K'' s attr (nu L) (i : Int) (Sv.at' s i : Int) b = some ⟨(L ++ Sv.esc attr (s.data.toList.drop i)).toArray⟩ := by
        intro K'' b hK'' hb
        obtain ⟨K'', rfl⟩ : ∃ m, K'' = m + 1 := ⟨K'' - 1, by omega⟩
        simp only [selvedgeref06_Escape.j2]
        rw [w64 ((i : Int) + 1) (by omega) (by omega)]
        by_cases h60 : Sv.at' s i = 60 ∧ attr = false
        · obtain ⟨h60, rfl⟩ := h60
          have hb' : b = true := by rw [hb]; simp [h60]
          rw [if_pos h60] at hesc
          rw [if_pos hb', if_pos (by omega), show bytesOf (⟨#[38, 108, 116, 59]⟩ : ByteArray) = nu [38, 108, 116, 59] from rfl]
          exact one _ _ (by omega) (by decide) hesc
        · have hb' : ¬ b = true := by
            rw [hb]; simp
            intro h; cases attr
            · exact absurd ⟨h, rfl⟩ h60
            · rfl
          have h60' : Sv.at' s i ≠ 60 ∨ attr = true := by
            cases attr
            · left; intro h; exact h60 ⟨h, rfl⟩
            · exact .inr rfl
          rw [if_neg hb']
          by_cases h62 : Sv.at' s i = 62
          · rw [if_pos (by omega)]
            exact j3 _ _ (by omega) (by simp [h62]) h60'
          · rw [if_neg (by omega)]
            exact j3 _ _ (by omega) (by simp [h62]) h60'
      by_cases h60 : Sv.at' s i = 60
      · rw [if_pos (by omega)]
        exact j2 _ _ (by omega) (by simp [h60])
      · rw [if_neg (by omega)]
        exact j2 _ _ (by omega) (by simp [h60])
    by_cases h38 : Sv.at' s i = 38
    · have hesc : Sv.esc attr (s.data.toList.drop i) = [38, 97, 109, 112, 59] ++ Sv.esc attr (s.data.toList.drop (i + 1)) := by
        rw [hdrop, Sv.esc_cons attr _ _ (.inl (by intro e; have : Sv.at' s i = 194 := (congrArg UInt8.toNat e : _); omega)), esc1_nat, if_pos (show (s.get! i).toNat = 38 from h38)]
      rw [if_pos (by omega), if_pos (by omega), show bytesOf (⟨#[38, 97, 109, 112, 59]⟩ : ByteArray) = nu [38, 97, 109, 112, 59] from rfl]
      exact one _ _ (by omega) (by decide) hesc
    rw [if_neg (by omega)]
    by_cases h194 : Sv.at' s i = 194
    · rw [if_pos (by omega)]
      by_cases h1 : i + 1 < s.size
      · rw [if_pos (by omega), if_pos (by omega), show ((i : Int) + 1) = ((i + 1 : Nat) : Int) from by omega, bt_at' s (i + 1) h1]
        by_cases h160 : Sv.at' s (i + 1) = 160
        · have e2 : s.get! i = 0xC2 := UInt8.toNat_inj.1 h194
          have e0 : s.get! (i + 1) = 0xA0 := UInt8.toNat_inj.1 h160
          have hesc : Sv.esc attr (s.data.toList.drop i) = [38, 110, 98, 115, 112, 59] ++ Sv.esc attr (s.data.toList.drop (i + 2)) := by
            rw [hdrop, Sv.drop_get s (i + 1) h1, e2, e0, Sv.esc_nb]
          obtain ⟨K, rfl⟩ : ∃ m, K = m + 1 := ⟨K - 1, by omega⟩
          simp only [selvedgeref06_Escape.j1]
          rw [if_pos (by rw [h160]; rfl), if_pos (by omega), show bytesOf (⟨#[38, 110, 98, 115, 112, 59]⟩ : ByteArray) = nu [38, 110, 98, 115, 112, 59] from rfl, w64 ((i : Int) + 1) (by omega) (by omega), w64 _ (by omega) (by omega), ← nu_app,
            show ((i : Int) + 1 + 1) = ((i + 2 : Nat) : Int) from by omega, ih (d - 2) (by omega) K (i + 2) _ (by omega) (by omega) (by omega) (by rw [List.length_append]; simp; omega), hesc, List.append_assoc]
        · rw [show (((Sv.at' s (i + 1) : Nat) : Int) == 160) = false from by rw [beq_eq_false_iff_ne]; omega]
          refine rest (.inr ?_) K (by omega) h38
          rw [Sv.drop_get s (i + 1) h1]
          simp
          intro e; exact h160 (congrArg UInt8.toNat e : _)
      · rw [if_neg (by omega)]
        refine rest (.inr ?_) K (by omega) h38
        rw [Sv.drop_end s (i + 1) h1]; simp
    · rw [if_neg (by omega)]
      exact rest (.inl (by intro e; exact h194 (congrArg UInt8.toNat e : _))) K (by omega) h38
  · rw [if_neg (by omega), Sv.drop_end s i hlt]
    simp [Sv.esc, strOf_nu]

theorem rEscape_some (attr : Bool) (s : ByteArray) (hs : s.size ≤ 100000000) (K : Nat) (hK : 4 * s.size + 4 ≤ K) : selvedgeref06_Escape.f K s attr = some ⟨(Sv.esc attr s.data.toList).toArray⟩ := by
  have := refEsc attr s hs s.size K 0 [] (by omega) (by omega) hK (by simp)
  exact this
end Go.Proofs.YtpfhgolamlnhiaaDoor
