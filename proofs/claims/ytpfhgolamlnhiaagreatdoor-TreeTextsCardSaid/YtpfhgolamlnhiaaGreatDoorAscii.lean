/- What the readers answer at plain text (below 128): utf.Decode, charref.Decode. -/
import Derived.Test.YtpfhgolamlnhiaaGreatDoorUtf4
import Derived.Test.YtpfhgolamlnhiaaGreatDoorTokT
import Derived.Test.YtpfhgolamlnhiaaGreatDoorTokP
set_option linter.unusedVariables false
set_option linter.unusedSimpArgs false
namespace Go.Proofs.YtpfhgolamlnhiaaGreatDoor.Ascii
open Go.RowKit Go.Proofs.YtpfhgolamlnhiaaGreatDoor Go.Proofs.YtpfhgolamlnhiaaGreatDoorW.PrintWords Go.Proofs.YtpfhgolamlnhiaaGreatDoor.XT Go.Proofs.YtpfhgolamlnhiaaGreatDoor.XQ

theorem nd_low : (List.range 128).all (fun b => decide (nd b = (0, 0, 0, true))) = true := by decide +kernel
theorem nd_of {b : Nat} (h : b < 128) : nd b = (0, 0, 0, true) := by
  have := List.all_eq_true.1 nd_low b (List.mem_range.2 h)
  simpa using this
theorem at_zero (c : UInt8) (l : List UInt8) : Sv.at' ⟨(c :: l).toArray⟩ 0 = c.toNat := rfl
theorem part_low (c : UInt8) (l : List UInt8) (h : c.toNat < 128) : part ⟨(c :: l).toArray⟩ = (1, true) := by
  unfold part
  rw [at_zero, nd_of h]
  rfl
theorem ext_one (c : UInt8) (l : List UInt8) : ((⟨(c :: l).toArray⟩ : ByteArray).extract 0 1).data.toList = [c] := by
  simp [ByteArray.data_extract, Array.toList_extract, List.extract]
theorem ext_tail (c : UInt8) (l : List UInt8) : (⟨(c :: l).toArray⟩ : ByteArray).extract 1 (⟨(c :: l).toArray⟩ : ByteArray).size = ⟨l.toArray⟩ := by
  apply ByteArray.ext
  apply Array.ext'
  simp [ByteArray.data_extract, Array.toList_extract, List.extract, ByteArray.size]
theorem mend_low : ∀ (l acc : List UInt8) (f : Nat), (∀ c ∈ l, c.toNat < 128) → acc.length + l.length ≤ 70368744177664 → l.length < f → mendGo f ⟨l.toArray⟩ acc = some (acc ++ l)
  | [], acc, f, h, hb, hf => by
    obtain ⟨f, rfl⟩ : ∃ m, f = m + 1 := ⟨f - 1, by simp at hf; omega⟩
    rw [mendGo, if_pos (show (⟨([] : List UInt8).toArray⟩ : ByteArray).size = 0 from rfl), List.append_nil]
  | c :: l, acc, f, h, hb, hf => by
    obtain ⟨f, rfl⟩ : ∃ m, f = m + 1 := ⟨f - 1, by simp at hf; omega⟩
    rw [List.length_cons] at hf hb
    have hs : (⟨(c :: l).toArray⟩ : ByteArray).size = l.length + 1 := by simp [ByteArray.size]
    rw [mendGo, if_neg (by rw [hs]; omega), part_low c l (h c (List.mem_cons_self ..)), if_pos rfl, ext_one]
    unfold wr
    rw [if_pos (by simp; omega), Option.bind_some, ext_tail, mend_low l _ f (fun x hx => h x (List.mem_cons_of_mem _ hx)) (by simp; omega) (by omega)]
    simp
theorem enc_all : (List.range 128).all (fun b => decide (Lib.encodeRune (b : Int) = [b.toUInt8])) = true := by decide +kernel
theorem enc_low {b : Nat} (h : b < 128) : Lib.encodeRune (b : Int) = [b.toUInt8] := by
  have := List.all_eq_true.1 enc_all b (List.mem_range.2 h)
  simpa using this
theorem at_list (s : ByteArray) (i : Nat) (h : i < s.size) : ∃ c, s.data.toList[i]? = some c ∧ Sv.at' s i = c.toNat ∧ s.data.toList.drop i = c :: s.data.toList.drop (i + 1) := by
  have hl : i < s.data.toList.length := by rw [Sv.size_list]; exact h
  refine ⟨s.data.toList[i], List.getElem?_eq_getElem hl, ?_, List.drop_eq_getElem_cons hl⟩
  rw [at_get s i h]
  rfl
theorem cr_low (s : ByteArray) (hs : ∀ c ∈ s.data.toList, c.toNat < 128 ∧ c.toNat ≠ 13) : ∀ (f pos : Nat) (st : Int) (acc : List UInt8), pos ≤ s.size → s.size - pos < f → st ≠ 13 → acc.length + (s.size - pos) ≤ 70368744177664 → crGo s f pos st acc = some (acc ++ s.data.toList.drop pos)
  | 0, pos, st, acc, h0, h1, h2, h3 => by omega
  | f + 1, pos, st, acc, h0, h1, h2, h3 => by
    rw [crGo]
    by_cases hp : pos < s.size
    · obtain ⟨c, hc, ha, hd⟩ := at_list s pos hp
      obtain ⟨c1, c2⟩ := hs c (List.mem_of_getElem? hc)
      have hdec := Sv.dec_low s pos (by rw [ha]; exact c1)
      rw [if_pos hp, hdec, ha]
      dsimp only
      rw [if_neg (fun hh => h2 hh.2), if_neg (by omega), enc_low c1]
      unfold wr
      rw [if_pos (by simp; omega), Option.bind_some, cr_low s hs f (pos + 1) _ _ (by omega) (by omega) (by omega) (by simp; omega), hd]
      have : c.toNat.toUInt8 = c := by simp
      rw [this]
      simp
    · rw [if_neg hp, List.drop_eq_nil_of_le (by rw [Sv.size_list]; omega), List.append_nil]
/-- Plain text is decoded as itself. -/
theorem utf_low (k : Nat) (s : ByteArray) (hs : ∀ c ∈ s.data.toList, c.toNat < 128 ∧ c.toNat ≠ 13) (hl : s.size ≤ 65536) (hk : s.size < k) : x_utfDecode.f k (bytesOf s) = some (s, 0) := by
  have hsz := Sv.size_list s
  unfold x_utfDecode.f
  rw [if_pos (by rw [bytesOf_length]; exact hl), strOf_bytes]
  have e : s = ⟨s.data.toList.toArray⟩ := by obtain ⟨⟨l⟩⟩ := s; rfl
  have hm : mendGo k s [] = some s.data.toList := by
    have := mend_low s.data.toList [] k (fun c hc => (hs c hc).1) (by simp; omega) (by omega)
    rw [← e] at this
    exact this
  rw [hm, Option.bind_some, ← e, cr_low s hs k 0 32 [] (by omega) (by omega) (by decide) (by simp; omega), Option.bind_some, List.drop_zero, List.nil_append, ← e]
/-- Text without a '&' is decoded as itself. -/
theorem dec_plain (k : Nat) (s : ByteArray) (at_ : Bool) (h : Lib.indexByte s.data.toList 38 < 0) (hl : s.size ≤ 65536) : x_Decode.f (k + 1) s at_ = some s := by
  have hsz := Sv.size_list s
  unfold x_Decode.f
  rw [if_pos (by omega), decGo, if_pos h]
  unfold wr
  rw [if_pos (by simp; omega), Option.bind_some, List.nil_append]
end Go.Proofs.YtpfhgolamlnhiaaGreatDoor.Ascii

set_option linter.unusedVariables false
set_option linter.unusedSimpArgs false
namespace Go.Proofs.YtpfhgolamlnhiaaGreatDoor.Ascii
open Go.RowKit Go.Proofs.YtpfhgolamlnhiaaGreatDoor Go.Proofs.YtpfhgolamlnhiaaGreatDoorW.PrintWords Go.Proofs.YtpfhgolamlnhiaaGreatDoor.XT Go.Proofs.YtpfhgolamlnhiaaGreatDoor.XQ

/-- Bytes as a text. -/
def T (l : List UInt8) : ByteArray := ⟨l.toArray⟩
theorem T_size (l : List UInt8) : (T l).size = l.length := by simp [T, ByteArray.size]
theorem T_list (l : List UInt8) : (T l).data.toList = l := rfl
theorem T_of (s : ByteArray) : T s.data.toList = s := by obtain ⟨⟨l⟩⟩ := s; rfl
theorem T_drop (l : List UInt8) (i : Nat) : (T l).extract i (T l).size = T (l.drop i) := by
  rw [← T_of ((T l).extract i (T l).size)]
  congr 1
  rw [ByteArray.data_extract, Array.toList_extract, T_size]
  simp [List.extract, T_list]
  exact List.take_of_length_le (by simp)
theorem T_take (l : List UInt8) (i : Nat) : (T l).extract 0 i = T (l.take i) := by
  rw [← T_of ((T l).extract 0 i)]
  congr 1
  rw [ByteArray.data_extract, Array.toList_extract]
  simp [List.extract, T_list]
theorem T_at (l : List UInt8) (i : Nat) (c : UInt8) (h : l[i]? = some c) : Sv.at' (T l) i = c.toNat := by
  have hl := (List.getElem?_eq_some_iff.1 h).1
  rw [at_get (T l) i (by rw [T_size]; exact hl)]
  have := (List.getElem?_eq_some_iff.1 h).2
  rw [← this]
  rfl
theorem noByte : ∀ (l : List UInt8) (c : UInt8), c ∉ l → Lib.indexByte l c = -1
  | [], c, h => rfl
  | b :: l, c, h => by
    have h1 : b ≠ c := fun e => h (e ▸ List.mem_cons_self ..)
    have h2 := noByte l c (fun hm => h (List.mem_cons_of_mem _ hm))
    unfold Lib.indexByte
    rw [if_neg (by simpa using h1), h2]
    rfl
end Go.Proofs.YtpfhgolamlnhiaaGreatDoor.Ascii
