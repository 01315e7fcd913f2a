/- What is escaped, its references read, is what it was. -/
import Derived.Test.YtpfhgolamlnhiaaDoorBackLaw
set_option linter.unusedVariables false
set_option linter.unusedSimpArgs false
namespace Go.Proofs.YtpfhgolamlnhiaaDoor
open Go.RowKit

/-- A reference, its character's number, its bytes. -/
structure Ref (ref : List UInt8) (r : Int) (ch : List UInt8) : Prop where
  hd : ∃ x, ref = 38 :: x
  f : ∀ attr u, findP ⟨(ref ++ u).toArray⟩ attr = (r, (ref.length : Int), true)
  e : Lib.encodeRune r = ch
  lo : 0 ≤ r
  hi : r ≤ 1000
  c1 : 1 ≤ ch.length
theorem ref_word (w : List UInt8) (r : Int) (ch : List UInt8) (hal : ∀ i, i < w.length → an (w[i]!).toNat = true) (h1 : 1 ≤ w.length) (h35 : w[0]! ≠ 35) (hh : bsHit ⟨w.toArray⟩ = true) (hr : (nmAt (bs ⟨w.toArray⟩)).r = r) (he : Lib.encodeRune r = ch) (h0 : 0 ≤ r) (h9 : r ≤ 1000) (hc : 1 ≤ ch.length) : Ref (38 :: (w ++ [59])) r ch where
  hd := ⟨_, rfl⟩
  f := fun attr u => by
    have := find_word attr w u hal h1 h35 hh
    rw [hr] at this
    rw [show (38 :: (w ++ [59])) ++ u = 38 :: (w ++ 59 :: u) by simp, this]
    simp only [List.length_cons, List.length_append, List.length_nil, Prod.mk.injEq, true_and, and_true]
    omega
  e := he
  lo := h0
  hi := h9
  c1 := hc
theorem ref_amp : Ref [38, 97, 109, 112, 59] 38 [38] := ref_word [97, 109, 112] 38 [38] (by decide +kernel) (by decide) (by decide) (by decide +kernel) (by decide +kernel) (by decide +kernel) (by decide) (by decide) (by decide)
theorem ref_lt : Ref [38, 108, 116, 59] 60 [60] := ref_word [108, 116] 60 [60] (by decide +kernel) (by decide) (by decide) (by decide +kernel) (by decide +kernel) (by decide +kernel) (by decide) (by decide) (by decide)
theorem ref_gt : Ref [38, 103, 116, 59] 62 [62] := ref_word [103, 116] 62 [62] (by decide +kernel) (by decide) (by decide) (by decide +kernel) (by decide +kernel) (by decide +kernel) (by decide) (by decide) (by decide)
theorem ref_nbsp : Ref [38, 110, 98, 115, 112, 59] 160 [0xC2, 0xA0] := ref_word [110, 98, 115, 112] 160 [0xC2, 0xA0] (by decide +kernel) (by decide) (by decide) (by decide +kernel) (by decide +kernel) (by decide +kernel) (by decide) (by decide) (by decide)
theorem ref_quot : Ref [38, 113, 117, 111, 116, 59] 34 [34] := ref_word [113, 117, 111, 116] 34 [34] (by decide +kernel) (by decide) (by decide) (by decide +kernel) (by decide +kernel) (by decide +kernel) (by decide) (by decide) (by decide)
theorem ref_13 : Ref [38, 35, 49, 51, 59] 13 [13] where
  hd := ⟨_, rfl⟩
  f := fun attr u => find_13 attr u
  e := by decide +kernel
  lo := by decide
  hi := by decide
  c1 := by decide

theorem esc_split (attr : Bool) : ∀ l : List UInt8, ∃ p t, l = p ++ t ∧ Sv.esc attr l = p ++ Sv.esc attr t ∧ 38 ∉ p ∧ (t = [] ∨ ∃ ref r ch t', t = ch ++ t' ∧ Sv.esc attr t = ref ++ Sv.esc attr t' ∧ Ref ref r ch)
  | [] => ⟨[], [], rfl, rfl, by simp, .inl rfl⟩
  | c :: rest => by
    by_cases hn : c = 0xC2 ∧ rest.head? = some 0xA0
    · obtain ⟨rfl, h2⟩ := hn
      obtain ⟨u, rfl⟩ : ∃ u, rest = 0xA0 :: u := by
        cases rest with
        | nil => cases h2
        | cons d u => simp at h2; exact ⟨u, by rw [h2]⟩
      exact ⟨[], _, rfl, rfl, by simp, .inr ⟨_, _, _, u, rfl, Sv.esc_nb attr u, ref_nbsp⟩⟩
    · have hc : Sv.esc attr (c :: rest) = Sv.esc1 attr c ++ Sv.esc attr rest := Sv.esc_cons attr c rest (by
        by_cases h : c = 0xC2
        · exact .inr (fun e => hn ⟨h, e⟩)
        · exact .inl h)
      have key : ∀ ref r ch, Sv.esc1 attr c = ref → [c] = ch → Ref ref r ch → ∃ p t, c :: rest = p ++ t ∧ Sv.esc attr (c :: rest) = p ++ Sv.esc attr t ∧ 38 ∉ p ∧ (t = [] ∨ ∃ ref r ch t', t = ch ++ t' ∧ Sv.esc attr t = ref ++ Sv.esc attr t' ∧ Ref ref r ch) := by
        intro ref r ch h1 h2 h3
        exact ⟨[], _, rfl, rfl, by simp, .inr ⟨ref, r, ch, rest, by rw [← h2]; rfl, by rw [hc, h1], h3⟩⟩
      have h1 : Sv.esc1 attr c = Sv.esc1 attr c := rfl
      unfold Sv.esc1 at h1
      by_cases e38 : c = 38
      · exact key _ _ _ (by rw [Sv.esc1, if_pos e38]) (by rw [e38]) ref_amp
      by_cases e13 : c = 13
      · exact key _ _ _ (by rw [Sv.esc1, if_neg e38, if_pos e13]) (by rw [e13]) ref_13
      by_cases e60 : (c = 60 && !attr) = true
      · exact key _ _ _ (by rw [Sv.esc1, if_neg e38, if_neg e13, if_pos e60]) (by simp at e60; rw [e60.1]) ref_lt
      by_cases e62 : (c = 62 && !attr) = true
      · exact key _ _ _ (by rw [Sv.esc1, if_neg e38, if_neg e13, if_neg e60, if_pos e62]) (by simp at e62; rw [e62.1]) ref_gt
      by_cases e34 : (c = 34 && attr) = true
      · exact key _ _ _ (by rw [Sv.esc1, if_neg e38, if_neg e13, if_neg e60, if_neg e62, if_pos e34]) (by simp at e34; rw [e34.1]) ref_quot
      · have e1 : Sv.esc1 attr c = [c] := by rw [Sv.esc1, if_neg e38, if_neg e13, if_neg e60, if_neg e62, if_neg e34]
        obtain ⟨p, t, rfl, h2, h3, h4⟩ := esc_split attr rest
        exact ⟨c :: p, t, rfl, by rw [hc, e1, h2]; rfl, by simp [Ne.symm e38, h3], h4⟩

theorem idx_none : ∀ p : List UInt8, 38 ∉ p → Lib.indexByte p 38 = -1
  | [], _ => rfl
  | c :: p, h => by
    have h1 : (c == 38) = false := by rw [beq_eq_false_iff_ne]; intro e; exact h (by rw [e]; exact List.mem_cons_self ..)
    have h2 := idx_none p (fun e => h (List.mem_cons_of_mem _ e))
    rw [Lib.indexByte, h1, h2]
    rfl
theorem idx_at : ∀ (p x : List UInt8), 38 ∉ p → Lib.indexByte (p ++ 38 :: x) 38 = p.length
  | [], x, _ => rfl
  | c :: p, x, h => by
    have h1 : (c == 38) = false := by rw [beq_eq_false_iff_ne]; intro e; exact h (by rw [e]; exact List.mem_cons_self ..)
    have h2 := idx_at p x (fun e => h (List.mem_cons_of_mem _ e))
    rw [List.cons_append, Lib.indexByte, h1, h2]
    have : ((p.length : Int) == -1) = false := by rw [beq_eq_false_iff_ne]; omega
    rw [this]
    simp

theorem wr_some (acc l : List UInt8) (h : acc.length + l.length ≤ 1000000) : wr acc l = some (acc ++ l) := by
  unfold wr
  rw [if_pos (by omega)]
theorem dec_esc (attr attr' : Bool) : ∀ (n : Nat) (l acc : List UInt8) (K : Nat), l.length ≤ n → acc.length + l.length ≤ 1000000 → n + 1 ≤ K → decGo attr' K ⟨(Sv.esc attr l).toArray⟩ acc = some (acc ++ l) := by
  intro n
  induction n with
  | zero =>
    intro l acc K h1 h2 h3
    obtain ⟨K, rfl⟩ : ∃ m, K = m + 1 := ⟨K - 1, by omega⟩
    obtain rfl : l = [] := List.length_eq_zero_iff.1 (by omega)
    rw [decGo, if_pos (by show Lib.indexByte (Sv.esc attr []) 38 < 0; simp [Sv.esc, Lib.indexByte])]
    exact wr_some _ _ (by show acc.length + (Sv.esc attr []).length ≤ _; simpa [Sv.esc] using h2)
  | succ n ih =>
    intro l acc K h1 h2 h3
    obtain ⟨K, rfl⟩ : ∃ m, K = m + 1 := ⟨K - 1, by omega⟩
    obtain ⟨p, t, rfl, he, hp, ht⟩ := esc_split attr l
    rw [he]
    rcases ht with rfl | ⟨ref, r, ch, t', rfl, he2, hR⟩
    · have e0 : (p ++ Sv.esc attr []) = p := by simp [Sv.esc]
      rw [e0, decGo, if_pos (by show Lib.indexByte p 38 < 0; rw [idx_none p hp]; decide), List.append_nil]
      exact wr_some _ _ (by simpa using h2)
    · rw [he2]
      obtain ⟨x, hx⟩ := hR.hd
      have hi : Lib.indexByte (⟨(p ++ (ref ++ Sv.esc attr t')).toArray⟩ : ByteArray).data.toList 38 = p.length := by
        show Lib.indexByte (p ++ (ref ++ Sv.esc attr t')) 38 = _
        rw [hx]
        exact idx_at p _ hp
      have hsz : (⟨(p ++ (ref ++ Sv.esc attr t')).toArray⟩ : ByteArray).size = p.length + (ref.length + (Sv.esc attr t').length) := by rw [mk_size]; simp
      have hrl : 1 ≤ ref.length := by rw [hx]; simp
      have x1 : (⟨(p ++ (ref ++ Sv.esc attr t')).toArray⟩ : ByteArray).extract 0 p.length = ⟨p.toArray⟩ := by rw [mk_extract]; simp
      have x2 : (⟨(p ++ (ref ++ Sv.esc attr t')).toArray⟩ : ByteArray).extract p.length (p.length + (ref.length + (Sv.esc attr t').length)) = ⟨(ref ++ Sv.esc attr t').toArray⟩ := by
        rw [mk_extract, List.take_of_length_le (by simp)]; simp
      have x3 : (⟨(p ++ (ref ++ Sv.esc attr t')).toArray⟩ : ByteArray).extract (p.length + ref.length) (p.length + (ref.length + (Sv.esc attr t').length)) = ⟨(Sv.esc attr t').toArray⟩ := by
        rw [mk_extract, List.take_of_length_le (by simp), ← List.drop_drop]; simp
      simp only [List.length_append] at h1 h2
      have hc1 := hR.c1
      rw [decGo, hi, if_neg (by omega), hsz, if_pos (by omega), Int.toNat_natCast, x1, x2, hR.f, wr_some acc _ (by show acc.length + p.length ≤ _; omega), Option.bind_some]
      dsimp only
      have hlo := hR.lo
      have hhi := hR.hi
      rw [if_pos rfl, if_pos ⟨by omega, by omega, by omega, by omega⟩, hR.e, wr_some _ _ (by rw [List.length_append]; show acc.length + p.length + _ ≤ _; omega), Option.bind_some, show ((p.length : Int) + (ref.length : Int)).toNat = p.length + ref.length by omega, x3,
        ih t' _ K (by omega) (by simp only [List.length_append]; show acc.length + p.length + _ + _ ≤ _; omega) (by omega)]
      show some (acc ++ p ++ ch ++ t') = _
      simp only [List.append_assoc]
end Go.Proofs.YtpfhgolamlnhiaaDoor
