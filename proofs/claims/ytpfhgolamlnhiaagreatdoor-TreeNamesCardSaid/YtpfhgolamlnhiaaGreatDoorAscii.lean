/- What the readers answer at plain text (below 128): utf.Decode, charref.Decode. -/
import Derived.Test.YtpfhgolamlnhiaaGreatDoorUtf4
import Derived.Test.YtpfhgolamlnhiaaGreatDoorTokG
import Derived.Test.YtpfhgolamlnhiaaGreatDoorTokP
set_option linter.unusedVariables false
set_option linter.unusedSimpArgs false
namespace Go.Proofs.YtpfhgolamlnhiaaGreatDoor.Ascii
open Go.RowKit Go.Proofs.YtpfhgolamlnhiaaGreatDoor Go.Proofs.YtpfhgolamlnhiaaGreatDoorW.PrintWords Go.Proofs.YtpfhgolamlnhiaaGreatDoor.XT Go.Proofs.YtpfhgolamlnhiaaGreatDoor.XQ

theorem nd_low : (List.range 128).all (fun b => decide (nd b = (0, 0, 0, true))) = true := by decide +kernel
theorem nd_of {b : Nat} (h : b < 128) : nd b = (0, 0, 0, true) := by
  have := List.all_eq_true.1 nd_low b (List.mem_range.2 h)
  simpa using this
theorem at_zero (c : UInt8) (l : List UInt8) : Sv.at' ⟨(c :: l).toArray⟩ 0 = c.toNat := rfl
theorem part_low (c : UInt8) (l : List UInt8) (h : c.toNat < 128) : part ⟨(c :: l).toArray⟩ = (1, true) := by
  unfold part
  rw [at_zero, nd_of h]
  rfl
theorem ext_one (c : UInt8) (l : List UInt8) : ((⟨(c :: l).toArray⟩ : ByteArray).extract 0 1).data.toList = [c] := by
  simp [ByteArray.data_extract, Array.toList_extract, List.extract]
theorem ext_tail (c : UInt8) (l : List UInt8) : (⟨(c :: l).toArray⟩ : ByteArray).extract 1 (⟨(c :: l).toArray⟩ : ByteArray).size = ⟨l.toArray⟩ := by
  apply ByteArray.ext
  apply Array.ext'
  simp [ByteArray.data_extract, Array.toList_extract, List.extract, ByteArray.size]
theorem mend_low : ∀ (l acc : List UInt8) (f : Nat), (∀ c ∈ l, c.toNat < 128) → acc.length + l.length ≤ 70368744177664 → l.length < f → mendGo f ⟨l.toArray⟩ acc = some (acc ++ l)
  | [], acc, f, h, hb, hf => by
    obtain ⟨f, rfl⟩ : ∃ m, f = m + 1 := ⟨f - 1, by simp at hf; omega⟩
    rw [mendGo, if_pos (show (⟨([] : List UInt8).toArray⟩ : ByteArray).size = 0 from rfl), List.append_nil]
  | c :: l, acc, f, h, hb, hf => by
    obtain ⟨f, rfl⟩ : ∃ m, f = m + 1 := ⟨f - 1, by simp at hf; omega⟩
    rw [List.length_cons] at hf hb
    have hs : (⟨(c :: l).toArray⟩ : ByteArray).size = l.length + 1 := by simp [ByteArray.size]
    rw [mendGo, if_neg (by rw [hs]; omega), part_low c l (h c (List.mem_cons_self ..)), if_pos rfl, ext_one]
    unfold wr
    rw [if_pos (by simp; omega), Option.bind_some, ext_tail, mend_low l _ f (fun x hx => h x (List.mem_cons_of_mem _ hx)) (by simp; omega) (by omega)]
    simp
theorem enc_all : (List.range 128).all (fun b => decide (Lib.encodeRune (b : Int) = [b.toUInt8])) = true := by decide +kernel
theorem enc_low {b : Nat} (h : b < 128) : Lib.encodeRune (b : Int) = [b.toUInt8] := by
  have := List.all_eq_true.1 enc_all b (List.mem_range.2 h)
  simpa using this
theorem at_list (s : ByteArray) (i : Nat) (h : i < s.size) : ∃ c, s.data.toList[i]? = some c ∧ Sv.at' s i = c.toNat ∧ s.data.toList.drop i = c :: s.data.toList.drop (i + 1) := by
  have hl : i < s.data.toList.length := by rw [Sv.size_list]; exact h
  refine ⟨s.data.toList[i], List.getElem?_eq_getElem hl, ?_, List.drop_eq_getElem_cons hl⟩
  rw [at_get s i h]
  rfl
theorem cr_low (s : ByteArray) (hs : ∀ c ∈ s.data.toList, c.toNat < 128 ∧ c.toNat ≠ 13) : ∀ (f pos : Nat) (st : Int) (acc : List UInt8), pos ≤ s.size → s.size - pos < f → st ≠ 13 → acc.length + (s.size - pos) ≤ 70368744177664 → crGo s f pos st acc = some (acc ++ s.data.toList.drop pos)
  | 0, pos, st, acc, h0, h1, h2, h3 => by omega
  | f + 1, pos, st, acc, h0, h1, h2, h3 => by
    rw [crGo]
    by_cases hp : pos < s.size
    · obtain ⟨c, hc, ha, hd⟩ := at_list s pos hp
      obtain ⟨c1, c2⟩ := hs c (List.mem_of_getElem? hc)
      have hdec := Sv.dec_low s pos (by rw [ha]; exact c1)
      rw [if_pos hp, hdec, ha]
      dsimp only
      rw [if_neg (fun hh => h2 hh.2), if_neg (by omega), enc_low c1]
      unfold wr
      rw [if_pos (by simp; omega), Option.bind_some, cr_low s hs f (pos + 1) _ _ (by omega) (by omega) (by omega) (by simp; omega), hd]
      have : c.toNat.toUInt8 = c := by simp
      rw [this]
      simp
    · rw [if_neg hp, List.drop_eq_nil_of_le (by rw [Sv.size_list]; omega), List.append_nil]
/-- Plain text is decoded as itself. -/
theorem utf_low (k : Nat) (s : ByteArray) (hs : ∀ c ∈ s.data.toList, c.toNat < 128 ∧ c.toNat ≠ 13) (hl : s.size ≤ 65536) (hk : s.size < k) : x_utfDecode.f k (bytesOf s) = some (s, 0) := by
  have hsz := Sv.size_list s
  unfold x_utfDecode.f
  rw [if_pos (by rw [bytesOf_length]; exact hl), strOf_bytes]
  have e : s = ⟨s.data.toList.toArray⟩ := by obtain ⟨⟨l⟩⟩ := s; rfl
  have hm : mendGo k s [] = some s.data.toList := by
    have := mend_low s.data.toList [] k (fun c hc => (hs c hc).1) (by simp; omega) (by omega)
    rw [← e] at this
    exact this
  rw [hm, Option.bind_some, ← e, cr_low s hs k 0 32 [] (by omega) (by omega) (by decide) (by simp; omega), Option.bind_some, List.drop_zero, List.nil_append, ← e]
/-- Text without a '&' is decoded as itself. -/
theorem dec_plain (k : Nat) (s : ByteArray) (at_ : Bool) (h : Lib.indexByte s.data.toList 38 < 0) (hl : s.size ≤ 65536) : x_Decode.f (k + 1) s at_ = some s := by
  have hsz := Sv.size_list s
  unfold x_Decode.f
  rw [if_pos (by omega), decGo, if_pos h]
  unfold wr
  rw [if_pos (by simp; omega), Option.bind_some, List.nil_append]
end Go.Proofs.YtpfhgolamlnhiaaGreatDoor.Ascii

set_option linter.unusedVariables false
set_option linter.unusedSimpArgs false
namespace Go.Proofs.YtpfhgolamlnhiaaGreatDoor.Ascii
open Go.RowKit Go.Proofs.YtpfhgolamlnhiaaGreatDoor Go.Proofs.YtpfhgolamlnhiaaGreatDoorW.PrintWords Go.Proofs.YtpfhgolamlnhiaaGreatDoor.XT Go.Proofs.YtpfhgolamlnhiaaGreatDoor.XQ

/-- Bytes as a text. -/
def T (l : List UInt8) : ByteArray := ⟨l.toArray⟩
theorem T_size (l : List UInt8) : (T l).size = l.length := by simp [T, ByteArray.size]
theorem T_list (l : List UInt8) : (T l).data.toList = l := rfl
theorem T_of (s : ByteArray) : T s.data.toList = s := by obtain ⟨⟨l⟩⟩ := s; rfl
theorem T_drop (l : List UInt8) (i : Nat) : (T l).extract i (T l).size = T (l.drop i) := by
  rw [← T_of ((T l).extract i (T l).size)]
  congr 1
  rw [ByteArray.data_extract, Array.toList_extract, T_size]
  simp [List.extract, T_list]
  exact List.take_of_length_le (by simp)
theorem T_take (l : List UInt8) (i : Nat) : (T l).extract 0 i = T (l.take i) := by
  rw [← T_of ((T l).extract 0 i)]
  congr 1
  rw [ByteArray.data_extract, Array.toList_extract]
  simp [List.extract, T_list]
theorem T_at (l : List UInt8) (i : Nat) (c : UInt8) (h : l[i]? = some c) : Sv.at' (T l) i = c.toNat := by
  have hl := (List.getElem?_eq_some_iff.1 h).1
  rw [at_get (T l) i (by rw [T_size]; exact hl)]
  have := (List.getElem?_eq_some_iff.1 h).2
  rw [← this]
  rfl
theorem noByte : ∀ (l : List UInt8) (c : UInt8), c ∉ l → Lib.indexByte l c = -1
  | [], c, h => rfl
  | b :: l, c, h => by
    have h1 : b ≠ c := fun e => h (e ▸ List.mem_cons_self ..)
    have h2 := noByte l c (fun hm => h (List.mem_cons_of_mem _ hm))
    unfold Lib.indexByte
    rw [if_neg (by simpa using h1), h2]
    rfl
/-- A letter or a digit. -/
def ld (c : UInt8) : Bool := letB c.toNat || (48 ≤ c.toNat && c.toNat ≤ 57)
theorem ld_all : (List.range 256).all (fun n => !(ld n.toUInt8) || (decide (n < 128) && decide (n ≠ 13) && decide (n ≠ 0) && decide (n ≠ 38) && decide (Lib.indexByte [9, 10, 12, 32, 47, 62] n.toUInt8 < 0))) = true := by decide +kernel
theorem ld_of {c : UInt8} (h : ld c = true) : c.toNat < 128 ∧ c.toNat ≠ 13 ∧ c.toNat ≠ 0 ∧ c.toNat ≠ 38 ∧ Lib.indexByte [9, 10, 12, 32, 47, 62] c < 0 := by
  have := List.all_eq_true.1 ld_all c.toNat (List.mem_range.2 (UInt8.toNat_lt _))
  have e : c.toNat.toUInt8 = c := by simp
  rw [e, h] at this
  simpa [and_assoc] using this
theorem upto_ld (n : List UInt8) (hn : ∀ c ∈ n, ld c = true) : ∀ (f j : Nat), j ≤ n.length → n.length - j < f → uptoGo [9, 10, 12, 32, 47, 62] (T (n ++ [62])) f j = n.length
  | 0, j, h0, h1 => by omega
  | f + 1, j, h0, h1 => by
    unfold uptoGo
    by_cases hj : j < n.length
    · have hc : (n ++ [62])[j]? = some n[j] := by rw [List.getElem?_append_left hj]; exact List.getElem?_eq_getElem hj
      have h5 := (ld_of (hn _ (List.getElem_mem hj))).2.2.2.2
      rw [if_pos ⟨by rw [T_size]; simp; omega, by rw [T_at _ _ _ hc]; simpa using h5⟩]
      exact upto_ld n hn f (j + 1) (by omega) (by omega)
    · have e : j = n.length := by omega
      subst e
      have hc : (n ++ [62])[n.length]? = some 62 := by simp
      rw [if_neg]
      rintro ⟨_, h⟩
      rw [T_at _ _ _ hc] at h
      exact absurd h (by decide)
theorem small_all : (List.range 256).all (fun n => !(ld n.toUInt8) || ld (smallB n.toUInt8)) = true := by decide +kernel
theorem ld_small {c : UInt8} (h : ld c = true) : ld (smallB c) = true := by
  have := List.all_eq_true.1 small_all c.toNat (List.mem_range.2 (UInt8.toNat_lt _))
  have e : c.toNat.toUInt8 = c := by simp
  rw [e, h] at this
  simpa using this
theorem bt_T (l : List UInt8) (j : Nat) (c : UInt8) (h : l[j]? = some c) : bt (T l) (j : Int) = (c.toNat : Int) := by
  have hl := (List.getElem?_eq_some_iff.1 h).1
  have h2 := (List.getElem?_eq_some_iff.1 h).2
  have e := bt_at (T l) (j : Int) (by rw [T_size, Int.toNat_natCast]; exact hl)
  rw [← e, ← h2]
  rfl
theorem digit_ld {c : UInt8} (h : ld c = true) (h1 : ¬letB c.toNat = true) : token_digit.f (c.toNat : Int) = some true := by
  unfold ld at h
  simp only [Bool.or_eq_true, Bool.and_eq_true, decide_eq_true_eq] at h
  rcases h with h | ⟨h2, h3⟩
  · exact absurd h h1
  · unfold token_digit.f
    rw [if_pos (by omega)]
    simp
    omega
theorem made_ld (l : List UInt8) (hl : ∀ c ∈ l, ld c = true) (hne : l ≠ []) (hs : l.length ≤ 65536) : ∀ (k j : Nat), j ≤ l.length → l.length - j < k → token_made.l0 k (T l) ⟨#[]⟩ (l.length : Int) (j : Int) = some true
  | 0, j, h0, h1 => by omega
  | k + 1, j, h0, h1 => by
    rw [token_made.l0, T_size]
    by_cases hj : j < l.length
    · have hc : l[j]? = some l[j] := List.getElem?_eq_getElem hj
      have hld := hl _ (List.getElem_mem hj)
      have hw : wrap64 ((j : Int) + 1) = ((j + 1 : Nat) : Int) := by unfold wrap64; omega
      rw [if_pos (by omega), if_pos (by omega), if_pos (by omega), bt_T _ _ _ hc, letB_eq, Option.bind_some]
      by_cases h2 : letB l[j].toNat = true
      · rw [if_pos h2, hw]; exact made_ld l hl hne hs k (j + 1) (by omega) (by omega)
      · rw [if_neg h2, digit_ld hld h2, Option.bind_some, if_pos rfl, hw]; exact made_ld l hl hne hs k (j + 1) (by omega) (by omega)
    · rw [if_neg (by omega), Lib.toList_data, T_list]
      simp [hne]
theorem trim62 : Lib.trimLeftS [62] [9, 10, 12, 32] = [62] := by decide
/-- The tag's token. -/
theorem tag_name (n : List UInt8) (hn : ∀ c ∈ n, ld c = true) (hne : n ≠ []) (hl : n.length ≤ 200) :
    tagK 300 (T (120 :: 60 :: (n ++ [62]))) 1 2 = some (0, n.length + 3, ⟨1, T (n.map smallB), [], false, ⟨#[]⟩⟩) := by
  have hsz : (T (120 :: 60 :: (n ++ [62]))).size = n.length + 3 := by rw [T_size]; simp
  have hx : (T (120 :: 60 :: (n ++ [62]))).extract 2 (T (120 :: 60 :: (n ++ [62]))).size = T (n ++ [62]) := T_drop _ 2
  have hu : uptoN tagStops.data.toList (T (n ++ [62])) = n.length := by
    unfold uptoN
    exact upto_ld n hn _ 0 (by omega) (by rw [T_size]; simp; omega)
  have hnm : smallS ((T (n ++ [62])).extract 0 n.length) = T (n.map smallB) := by
    rw [T_take, List.take_left]
    rfl
  have hm : token_made.f 300 (T (n.map smallB)) ⟨#[]⟩ = some true := by
    unfold token_made.f
    rw [T_size]
    refine made_ld _ ?_ (by simpa using hne) (by simp; omega) 300 0 (by omega) (by simp; omega)
    intro c hc
    obtain ⟨b, hb, rfl⟩ := List.mem_map.1 hc
    exact ld_small (hn b hb)
  have hsk : skipTo (T (120 :: 60 :: (n ++ [62]))) (2 + n.length) = n.length + 2 := by
    unfold skipTo skipLen
    rw [T_drop, T_list, show List.drop (2 + n.length) (120 :: 60 :: (n ++ [62])) = [62] by rw [show 2 + n.length = (n.length + 1) + 1 by omega, List.drop_succ_cons, List.drop_succ_cons, List.drop_left], trim62, hsz]
    rfl
  have hh : hasAt (T (120 :: 60 :: (n ++ [62]))) (n.length + 2) [62] = true := by
    unfold hasAt
    rw [T_list, show List.drop (n.length + 2) (120 :: 60 :: (n ++ [62])) = [62] by rw [List.drop_succ_cons, List.drop_succ_cons, List.drop_left]]
    decide
  unfold tagK
  rw [hx, hu]
  dsimp only
  rw [hnm, hm, Option.bind_some, hsk, hh, hsz, if_neg (by decide), if_neg (by omega), if_pos rfl]
  unfold tagFin
  rw [if_neg (by simp)]
/-- The tokens of "x<name>". -/
theorem tokens_name (c0 : UInt8) (n : List UInt8) (hn : ∀ c ∈ c0 :: n, ld c = true) (h0 : letB c0.toNat = true) (hl : n.length < 200) :
    tokensK 300 (T (120 :: 60 :: (c0 :: n ++ [62]))) = some ([⟨3, ⟨#[]⟩, [], false, T [120]⟩, ⟨1, T ((c0 :: n).map smallB), [], false, ⟨#[]⟩⟩], 0, 0) := by
  have ht := tag_name (c0 :: n) hn (by simp) (by simp; omega)
  have hsz : (T (120 :: 60 :: (c0 :: n ++ [62]))).size = n.length + 4 := by rw [T_size]; simp
  have hz : Lib.indexByte (120 :: 60 :: (c0 :: n ++ [62])) 0 = -1 := by
    refine noByte _ _ ?_
    intro hm
    rw [List.mem_cons, List.mem_cons, List.mem_append] at hm
    rcases hm with hm | hm | hm | hm
    · exact absurd hm (by decide)
    · exact absurd hm (by decide)
    · exact (ld_of (hn 0 hm)).2.2.1 rfl
    · exact absurd hm (by decide)
  have e0 : (T (120 :: 60 :: (c0 :: n ++ [62]))).extract 0 (T (120 :: 60 :: (c0 :: n ++ [62]))).size = T (120 :: 60 :: (c0 :: n ++ [62])) := T_drop _ 0
  have e1 : (T (120 :: 60 :: (c0 :: n ++ [62]))).extract 1 (T (120 :: 60 :: (c0 :: n ++ [62]))).size = T (60 :: (c0 :: n ++ [62])) := T_drop _ 1
  have n0 : nextN (T (120 :: 60 :: (c0 :: n ++ [62]))) = 0 := by
    unfold nextN
    rw [if_neg (by rw [hsz]; omega), T_at _ 0 120 rfl, if_pos (by decide)]
  have n1 : nextN (T (60 :: (c0 :: n ++ [62]))) = 1 := by
    unfold nextN
    rw [if_neg (by rw [T_size]; simp), T_at _ 0 60 rfl, if_neg (by decide), T_at _ 1 c0 rfl, if_pos h0]
  have te : textEnd (T (120 :: 60 :: (c0 :: n ++ [62]))) 0 = 1 := by
    unfold textEnd textGo
    rw [if_pos (by rw [hsz]; omega), if_pos]
    unfold stopsAt
    rw [T_at _ 1 60 rfl, T_at _ 2 c0 rfl, hsz, h0]
    simp
  have tx : textK 300 (T (120 :: 60 :: (c0 :: n ++ [62]))) 0 = some (0, 1, ⟨3, ⟨#[]⟩, [], false, T [120]⟩) := by
    unfold textK
    rw [te, T_take]
    rw [show List.take 1 (120 :: 60 :: (c0 :: n ++ [62])) = [120] from rfl, dec_plain 299 (T [120]) false (by decide) (by decide)]
    rfl
  unfold tokensK
  rw [if_neg (by rw [hsz]; omega), T_list, hz, if_neg (by decide)]
  rw [tokGo, if_pos (by rw [hsz]; omega), if_pos (by decide)]
  rw [show stepK 300 (T (120 :: 60 :: (c0 :: n ++ [62]))) 0 = some (0, 1, ⟨3, ⟨#[]⟩, [], false, T [120]⟩) by unfold stepK; rw [e0, n0, if_pos rfl, tx]]
  rw [Option.bind_some, if_pos rfl, if_pos (by rw [hsz]; show 1 ≤ _; omega)]
  rw [tokGo, if_pos (by rw [hsz]; show 1 < _; omega), if_pos (by decide)]
  rw [show stepK 300 (T (120 :: 60 :: (c0 :: n ++ [62]))) 1 = some (0, (c0 :: n).length + 3, ⟨1, T ((c0 :: n).map smallB), [], false, ⟨#[]⟩⟩) by unfold stepK; rw [e1, n1, if_neg (by decide), if_pos rfl, ht]]
  rw [Option.bind_some, if_pos rfl, if_pos (by rw [hsz]; simp)]
  rw [tokGo, if_neg (by rw [hsz]; simp), if_pos (by rw [hsz]; simp)]
  rfl
end Go.Proofs.YtpfhgolamlnhiaaGreatDoor.Ascii
