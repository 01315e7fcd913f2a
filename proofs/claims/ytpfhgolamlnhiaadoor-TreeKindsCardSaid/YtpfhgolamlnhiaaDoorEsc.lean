import GoSem.Core.Utf8
namespace Sv
open Go

/-- The reference's escaping of bytes. -/
def esc1 (attr : Bool) (c : UInt8) : List UInt8 :=
  if c = 38 then [38, 97, 109, 112, 59]
  else if c = 13 then [38, 35, 49, 51, 59]
  else if c = 60 && !attr then [38, 108, 116, 59]
  else if c = 62 && !attr then [38, 103, 116, 59]
  else if c = 34 && attr then [38, 113, 117, 111, 116, 59]
  else [c]

def esc (attr : Bool) : List UInt8 → List UInt8
  | [] => []
  | [c] => esc1 attr c
  | c :: d :: u => if c = 0xC2 ∧ d = 0xA0 then [38, 110, 98, 115, 112, 59] ++ esc attr u else esc1 attr c ++ esc attr (d :: u)

/-- What the program writes for a character; empty: itself. -/
def oth (attr : Bool) (r : Nat) : List UInt8 :=
  if attr then
    if r = 34 then [38, 113, 117, 111, 116, 59]
    else if r = 38 then [38, 97, 109, 112, 59]
    else if r = 160 then [38, 110, 98, 115, 112, 59]
    else if r = 13 then [38, 35, 49, 51, 59]
    else []
  else
    if r = 60 then [38, 108, 116, 59]
    else if r = 62 then [38, 103, 116, 59]
    else if r = 38 then [38, 97, 109, 112, 59]
    else if r = 160 then [38, 110, 98, 115, 112, 59]
    else if r = 13 then [38, 35, 49, 51, 59]
    else []

theorem esc_cons (attr : Bool) (c : UInt8) (t : List UInt8) (h : c ≠ 0xC2 ∨ t.head? ≠ some 0xA0) : esc attr (c :: t) = esc1 attr c ++ esc attr t := by
  cases t with
  | nil => simp [esc]
  | cons d u =>
    rw [esc, if_neg]
    rintro ⟨rfl, rfl⟩
    simp at h

theorem esc_nb (attr : Bool) (t : List UInt8) : esc attr (0xC2 :: 0xA0 :: t) = [38, 110, 98, 115, 112, 59] ++ esc attr t := by
  rw [esc, if_pos ⟨rfl, rfl⟩]

theorem esc1_high (attr : Bool) (c : UInt8) (h : 128 ≤ c.toNat) : esc1 attr c = [c] := by
  unfold esc1
  have : ∀ k : UInt8, k.toNat < 128 → c ≠ k := by
    rintro k hk rfl; omega
  rw [if_neg (this _ (by decide)), if_neg (this _ (by decide)), if_neg (by simp [this 60 (by decide)]), if_neg (by simp [this 62 (by decide)]), if_neg (by simp [this 34 (by decide)])]

/-- What is at a place, as a number. -/
def at' (s : ByteArray) (i : Nat) : Nat := (s.get! i).toNat

theorem size_list (s : ByteArray) : s.data.toList.length = s.size := by
  rw [Array.length_toList]; rfl

theorem drop_get (s : ByteArray) (i : Nat) (h : i < s.size) : s.data.toList.drop i = s.get! i :: s.data.toList.drop (i + 1) := by
  have hl : i < s.data.toList.length := by rw [size_list]; exact h
  rw [List.drop_eq_getElem_cons hl]
  congr 1
  show s.data.toList[i] = s.data[i]!
  have h' : i < s.data.size := h
  rw [getElem!_pos s.data i h', Array.getElem_toList]

theorem drop_end (s : ByteArray) (i : Nat) (h : ¬ i < s.size) : s.data.toList.drop i = [] := by
  apply List.drop_eq_nil_of_le
  rw [size_list]
  omega

theorem dec_low (s : ByteArray) (i : Nat) (h : at' s i < 128) : Utf8.decode s i = (at' s i, 1) := by
  unfold Utf8.decode
  simp only [Nat.add_zero]
  rw [if_pos (show (s.get! i).toNat < 128 from h)]
  rfl

/-- What is read where no ASCII byte stands. -/
structure High (s : ByteArray) (i r n : Nat) : Prop where
  rune : 128 ≤ r
  pos : 1 ≤ n
  fits : i < s.size → i + n ≤ s.size
  bytes : ∀ k, k < n → 128 ≤ at' s (i + k)
  tail : ∀ k, 1 ≤ k → k < n → at' s (i + k) < 192
  nb : r = 160 → n = 2 ∧ at' s i = 0xC2 ∧ at' s (i + 1) = 0xA0
  bn : at' s i = 0xC2 → i + 1 < s.size → at' s (i + 1) = 0xA0 → r = 160

theorem dec_high (s : ByteArray) (i : Nat) (h : 128 ≤ at' s i) : High s i (Utf8.decode s i).1 (Utf8.decode s i).2 := by
  have hb := (s.get! i).toNat_lt
  have hd : ∀ k, at' s k < 256 := fun k => (s.get! k).toNat_lt
  unfold Utf8.decode
  simp only [Nat.add_zero]
  have e : ∀ k, (s.get! k).toNat = at' s k := fun _ => rfl
  simp only [e, Bool.and_eq_true, decide_eq_true_eq, beq_iff_eq]
  have h0 := hd i
  have h1 := hd (i + 1)
  have h2 := hd (i + 2)
  have h3 := hd (i + 3)
  have bad : ¬ (at' s i / 32 = 6 ∧ i + 1 < s.size ∧ at' s (i + 1) / 64 = 2 ∧ 128 ≤ at' s i % 32 * 64 + at' s (i + 1) % 64) → High s i Utf8.runeError 1 := by
    intro hn
    refine ⟨by decide, by omega, by omega, ?_, by omega, by unfold Utf8.runeError; omega, ?_⟩
    · intro k hk; obtain rfl : k = 0 := by omega
      exact h
    · intro a b c; exfalso; apply hn; omega
  split
  · omega
  split
  · rename_i hc
    split
    · rename_i hr
      refine ⟨by simpa using hr, by simp, by simp; omega, ?_, ?_, ?_, ?_⟩
      · intro k hk; simp at hk
        obtain rfl | rfl : k = 0 ∨ k = 1 := by omega
        · exact h
        · omega
      · intro k hk hk'; simp at hk'
        obtain rfl : k = 1 := by omega
        omega
      · intro hr; simp at hr; refine ⟨rfl, ?_, ?_⟩ <;> omega
      · intro a b c; simp [a, c]
    · exact bad (by omega)
  split
  · rename_i hc0 hc
    split
    · rename_i hr
      refine ⟨by simp; omega, by simp, by simp; omega, ?_, ?_, ?_, ?_⟩
      · intro k hk; simp at hk
        obtain rfl | rfl | rfl : k = 0 ∨ k = 1 ∨ k = 2 := by omega
        · exact h
        · omega
        · omega
      · intro k hk hk'; simp at hk'
        obtain rfl | rfl : k = 1 ∨ k = 2 := by omega
        · omega
        · omega
      · intro hr'; simp at hr'; omega
      · intro a b c; omega
    · exact bad (by omega)
  split
  · rename_i hc0 hc1 hc
    split
    · rename_i hr
      refine ⟨by simp; omega, by simp, by simp; omega, ?_, ?_, ?_, ?_⟩
      · intro k hk; simp at hk
        obtain rfl | rfl | rfl | rfl : k = 0 ∨ k = 1 ∨ k = 2 ∨ k = 3 := by omega
        · exact h
        · omega
        · omega
        · omega
      · intro k hk hk'; simp at hk'
        obtain rfl | rfl | rfl : k = 1 ∨ k = 2 ∨ k = 3 := by omega
        · omega
        · omega
        · omega
      · intro hr'; simp at hr'; omega
      · intro a b c; omega
    · exact bad (by omega)
  · exact bad (by omega)

theorem dec_pos (s : ByteArray) (i : Nat) (h : i < s.size) : 1 ≤ (Utf8.decode s i).2 ∧ i + (Utf8.decode s i).2 ≤ s.size := by
  by_cases hl : at' s i < 128
  · rw [dec_low s i hl]; exact ⟨Nat.le_refl _, h⟩
  · have H := dec_high s i (by omega)
    exact ⟨H.pos, H.fits h⟩

/-- The bytes from a place up to another one. -/
def cut (s : ByteArray) (i j : Nat) : List UInt8 := (s.data.toList.take j).drop i

theorem cut_self (s : ByteArray) (i : Nat) : cut s i i = [] := by
  unfold cut; apply List.drop_eq_nil_of_le; rw [List.length_take]; omega

theorem cut_app (s : ByteArray) (i j k : Nat) (h : i ≤ j) (h' : j ≤ k) (_hk : k ≤ s.size) : cut s i j ++ cut s j k = cut s i k := by
  unfold cut
  have e1 : List.drop i (List.take j s.data.toList) = List.take (j - i) (List.drop i s.data.toList) := by rw [List.drop_take]
  have e2 : List.drop j (List.take k s.data.toList) = List.take (k - j) (List.drop j s.data.toList) := by rw [List.drop_take]
  have e3 : List.drop i (List.take k s.data.toList) = List.take (k - i) (List.drop i s.data.toList) := by rw [List.drop_take]
  rw [e1, e2, e3, show k - i = (j - i) + (k - j) by omega, List.take_add, List.drop_drop, show i + (j - i) = j by omega]

theorem cut_step (s : ByteArray) (i : Nat) (h : i < s.size) : cut s i (i + 1) = [s.get! i] := by
  unfold cut
  rw [List.drop_take, show i + 1 - i = 1 by omega, drop_get s i h]
  rfl

/-- Bytes that are not ASCII are as they are, if none of them begins a 160. -/
theorem esc_run (attr : Bool) (s : ByteArray) : ∀ (n i : Nat), i + n ≤ s.size → (∀ k, k < n → 128 ≤ at' s (i + k)) → (∀ k, k < n → ¬ (at' s (i + k) = 0xC2 ∧ i + k + 1 < s.size ∧ at' s (i + k + 1) = 0xA0)) →
    esc attr (s.data.toList.drop i) = cut s i (i + n) ++ esc attr (s.data.toList.drop (i + n)) := by
  intro n
  induction n with
  | zero => intro i _ _ _; rw [Nat.add_zero, cut_self]; rfl
  | succ n ih =>
    intro i hn hb hx
    have hi : i < s.size := by omega
    rw [drop_get s i hi, esc_cons, esc1_high, ih (i + 1) (by omega) (fun k hk => by have := hb (k + 1) (by omega); rwa [show i + (k + 1) = i + 1 + k by omega] at this)
      (fun k hk => by have := hx (k + 1) (by omega); rwa [show i + (k + 1) = i + 1 + k by omega] at this), ← cut_app s i (i + 1) (i + (n + 1)) (by omega) (by omega) (by omega), cut_step s i hi, show i + 1 + n = i + (n + 1) by omega, List.append_assoc]
    · exact hb 0 (by omega)
    · by_cases hc : at' s i = 0xC2
      · right
        by_cases h1 : i + 1 < s.size
        · rw [drop_get s (i + 1) h1]
          intro h
          simp at h
          apply hx 0 (by omega)
          refine ⟨hc, h1, ?_⟩
          show (s.get! (i + 1)).toNat = 160
          rw [h]; rfl
        · rw [drop_end s (i + 1) h1]; simp
      · left
        intro h
        apply hc
        show (s.get! i).toNat = 194
        rw [h]; rfl

/-- What the program's loop hands back, from a place on: 'frm' is the place up to which all is written. -/
def escGo (attr : Bool) (s : ByteArray) : Nat → Nat → Nat → List UInt8
  | 0, _, _ => []
  | f + 1, pos, frm =>
    if pos < s.size then
      if oth attr (Utf8.decode s pos).1 = [] then escGo attr s f (pos + (Utf8.decode s pos).2) frm
      else cut s frm pos ++ oth attr (Utf8.decode s pos).1 ++ escGo attr s f (pos + (Utf8.decode s pos).2) (pos + (Utf8.encode ((Utf8.decode s pos).1 : Nat)).size)
    else cut s frm s.size

theorem oth_low (attr : Bool) (c : UInt8) (h : c.toNat < 128) : esc1 attr c = if oth attr c.toNat = [] then [c] else oth attr c.toNat := by
  have key : ∀ n : Nat, n < 128 → ∀ a : Bool, esc1 a (UInt8.ofNat n) = if oth a n = [] then [UInt8.ofNat n] else oth a n := by decide
  have := key c.toNat h attr
  rwa [UInt8.ofNat_toNat] at this

theorem oth_high (attr : Bool) (r : Nat) (h : 128 ≤ r) (h' : r ≠ 160) : oth attr r = [] := by
  have h1 : r ≠ 34 := by omega
  have h2 : r ≠ 38 := by omega
  have h3 : r ≠ 13 := by omega
  have h4 : r ≠ 60 := by omega
  have h5 : r ≠ 62 := by omega
  unfold oth
  simp [h1, h2, h3, h4, h5, h']

/-- Where something is written, as many bytes are passed by as the character has. -/
theorem enc_width (attr : Bool) (s : ByteArray) (pos : Nat) (hz : oth attr (Utf8.decode s pos).1 ≠ []) : (Utf8.encode ((Utf8.decode s pos).1 : Nat)).size = (Utf8.decode s pos).2 := by
  by_cases hl : at' s pos < 128
  · rw [dec_low s pos hl]
    unfold Utf8.encode Utf8.valid
    have : ((at' s pos : Nat) : Int).toNat = at' s pos := by omega
    simp only [this]
    rw [if_pos]
    · rfl
    · split <;> simp_all <;> omega
  · have H := dec_high s pos (by omega)
    by_cases hr : (Utf8.decode s pos).1 = 160
    · rw [hr, (H.nb hr).1]; rfl
    · exact absurd (oth_high attr _ H.rune hr) hz

theorem oth_len (attr : Bool) (r : Nat) : (oth attr r).length ≤ 6 := by
  unfold oth
  repeat' split
  all_goals simp
theorem cut_len (s : ByteArray) (i j : Nat) : (cut s i j).length ≤ j - i := by
  unfold cut
  rw [List.length_drop, List.length_take]
  omega

theorem esc_go (attr : Bool) (s : ByteArray) : ∀ (f pos frm : Nat), frm ≤ pos → pos ≤ s.size → s.size - pos < f → escGo attr s f pos frm = cut s frm pos ++ esc attr (s.data.toList.drop pos) := by
  intro f
  induction f with
  | zero => intro pos frm _ _ h; omega
  | succ f ih =>
    intro pos frm hf hp hk
    unfold escGo
    by_cases h : pos < s.size
    · rw [if_pos h]
      by_cases hl : at' s pos < 128
      · rw [dec_low s pos hl]
        dsimp only
        have ho := oth_low attr (s.get! pos) hl
        have hc : esc attr (s.data.toList.drop pos) = esc1 attr (s.get! pos) ++ esc attr (s.data.toList.drop (pos + 1)) := by
          rw [drop_get s pos h, esc_cons]
          left
          intro e
          have : at' s pos = 194 := by show (s.get! pos).toNat = 194; rw [e]; rfl
          omega
        rw [hc, ho]
        by_cases hz : oth attr (at' s pos) = []
        · rw [if_pos hz, if_pos (show oth attr (s.get! pos).toNat = [] from hz), ih _ _ (by omega) (by omega) (by omega), ← cut_app s frm pos (pos + 1) hf (by omega) (by omega), cut_step s pos h, List.append_assoc]
        · have he : (Utf8.encode ((at' s pos : Nat) : Int)).size = 1 := by
            unfold Utf8.encode Utf8.valid
            have : ((at' s pos : Nat) : Int).toNat = at' s pos := by omega
            simp only [this]
            rw [if_pos]
            · rfl
            · split <;> simp_all <;> omega
          rw [if_neg hz, if_neg (show ¬ oth attr (s.get! pos).toNat = [] from hz), he, ih _ _ (by omega) (by omega) (by omega), cut_self]
          simp [at']
      · have H := dec_high s pos (by omega)
        generalize (Utf8.decode s pos).1 = r at *
        generalize (Utf8.decode s pos).2 = n at *
        have hfit := H.fits h
        by_cases hr : r = 160
        · subst hr
          obtain ⟨rfl, hc2, ha0⟩ := H.nb rfl
          have e2 : s.get! pos = 0xC2 := UInt8.toNat_inj.1 hc2
          have e0 : s.get! (pos + 1) = 0xA0 := UInt8.toNat_inj.1 ha0
          have hz : oth attr 160 = [38, 110, 98, 115, 112, 59] := by cases attr <;> rfl
          rw [hz, if_neg (by simp), show (Utf8.encode ((160 : Nat) : Int)).size = 2 from rfl, ih _ _ (by omega) (by omega) (by have := H.pos; omega), cut_self, drop_get s pos h, drop_get s (pos + 1) (by omega), e2, e0, esc_nb]
          simp
        · rw [if_pos (oth_high attr r H.rune hr), ih _ _ (by omega) (by omega) (by have := H.pos; omega), esc_run attr s n pos hfit H.bytes, ← cut_app s frm pos (pos + n) hf (by omega) (by omega), List.append_assoc]
          intro k hk ⟨a, b, c⟩
          rcases Nat.eq_zero_or_pos k with rfl | hk0
          · exact hr (H.bn a b c)
          · have := H.tail k hk0 hk
            omega
    · rw [if_neg h, drop_end s pos h]
      obtain rfl : pos = s.size := by omega
      simp [esc]

end Sv
