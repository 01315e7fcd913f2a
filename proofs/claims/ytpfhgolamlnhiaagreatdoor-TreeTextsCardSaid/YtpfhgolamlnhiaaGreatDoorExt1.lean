/- The writers of strings.Builder at a builder that the call itself has made, in this translation (turned from the guide's shelf: its copyCheck has another body here). -/
import Derived.Test.YtpfhgolamlnhiaaGreatDoorProg
import Derived.Lib.FrozenHead2
import Derived.Lib.OthersKept
import Derived.Lib.Builder
import Derived.Lib.AppendStr
import Derived.Lib.RuneBytes
import Derived.WalkKit
import Derived.BigCall
import Derived.Laws.Externs
import GoSem.Core.Utf8
import Derived.Test.YtpfhgolamlnhiaaGreatDoorShelf
import Derived.WalkSpells
import Derived.Lib.Hide
import Derived.Test.YtpfhgolamlnhiaaGreatDoorXT
import Derived.Shelf.Unicode.ValidAny
set_option linter.unusedVariables false
set_option linter.unusedSimpArgs false
namespace Go.Proofs.YtpfhgolamlnhiaaGreatDoor.Bld
open Go.RowKit

theorem sizeBuilder : (Tryz.prog.info? 83).map (fun x => x.size) = some 2 := by kernel_rfl
theorem liesBuilder : liesAt Tryz.prog Tryz.prog.depth 83 (2 / Tryz.prog.cellsOf 83) 0 83 1 = true := by kernel_rfl
theorem infoByte : (Tryz.prog.info? 5).map (fun i => (i.zero, i.size, i.bytes)) = some (some (.int .u8 0), 1, 1) := by kernel_rfl
theorem neB5 : (83 : TypeId) ≠ 5 := by decide

set_option maxHeartbeats 1000000 in
set_option maxRecDepth 100000 in
theorem copyCheck_used (b : Nat) (w : World) (h0 : w.cell? ⟨b, 0, none⟩ = some (.pointer (some ⟨b, 0, none⟩))) :
    Calls Tryz.prog 94 #[.pointer (some ⟨b, 0, none⟩)] w fun e w' => e = .returned (.tuple #[]) ∧ w' = w := by
  obtain ⟨j, hj, _⟩ := Option.map_eq_some_iff.1 sizeBuilder
  go_enter Tryz.func94, Tryz.ntmps94
  go_wp2
  rw [Lib.run_neq_ptr_same w _ Tryz.underlying81 hj]
  go_wp2
  go_end0
  exact ⟨rfl, rfl⟩

set_option maxHeartbeats 1000000 in
set_option maxRecDepth 100000 in
theorem copyCheck_fresh (b : Nat) (w : World) (h0 : w.cell? ⟨b, 0, none⟩ = some (.pointer none)) (hsh : w.shape? b = some (83, 2)) (hfz : w.frozen? ⟨b, 0, none⟩ = false) :
    Calls Tryz.prog 94 #[.pointer (some ⟨b, 0, none⟩)] w fun e w' => e = .returned (.tuple #[]) ∧ w' = w.setCell ⟨b, 0, none⟩ (.pointer (some ⟨b, 0, none⟩)) := by
  obtain ⟨j, hj, hjs⟩ := Option.map_eq_some_iff.1 sizeBuilder
  go_enter Tryz.func94, Tryz.ntmps94
  go_wp2
  rw [Lib.run_to_unsafe w ⟨b, 0, none⟩ Tryz.underlying81 Tryz.underlying125 hj (by rw [hjs]; decide) hsh (Nat.zero_lt_succ 1)]
  simp only [Result.andThen]
  rw [Oper.upon_value]
  go_wp2
  rw [run_callFunc_extern Tryz.func120 (by kernel_rfl) (by kernel_rfl) (by kernel_rfl) (e := Extern.AbiNoEscape.same) (by kernel_rfl)]
  rw [Lib.run_noEscape]
  simp only [Result.andThen]
  rw [Oper.upon_value]
  go_wp2
  rw [Lib.run_from_unsafe w ⟨b, 0, none⟩ Tryz.underlying125 Tryz.underlying81 hj hsh liesBuilder]
  simp only [Result.andThen]
  rw [Oper.upon_value]
  go_wp2
  go_end0
  exact ⟨rfl, rfl⟩

theorem copyCheck (B b : Nat) (bs : List Value) (w : World) (h : Lib.IsBuilderF 83 5 B b bs w) :
    Calls Tryz.prog 94 #[.pointer (some ⟨b, 0, none⟩)] w fun e w' => e = .returned (.tuple #[]) ∧ (Lib.BuilderAtF 83 5 B b (.pointer (some ⟨b, 0, none⟩)) bs w' ∧ Below B w w' ∧ Lib.OthersKept 5 (some b) w w') := by
  rcases h with h | h
  · refine (copyCheck_fresh b w h.cell0 h.shape h.frozen0).mono ?_
    rintro e w' ⟨rfl, rfl⟩
    exact ⟨rfl, h.used _, (Below.refl B w).setCell (p := ⟨b, 0, none⟩) h.1 _, (Lib.OthersKept.refl _ _ w).setCell ⟨b, 0, none⟩ rfl _⟩
  · refine (copyCheck_used b w h.cell0).mono ?_
    rintro e w' ⟨rfl, rfl⟩
    exact ⟨rfl, h, Below.refl B _, Lib.OthersKept.refl _ _ _⟩

set_option maxHeartbeats 2000000 in
set_option maxRecDepth 100000 in
theorem WriteString (B b : Nat) (bs : List Value) (s : ByteArray) (w : World) (h : Lib.IsBuilderF 83 5 B b bs w) (hlen : bs.length + s.size ≤ 140737488355328) (hBw : B ≤ w.heap.size) :
    Calls Tryz.prog 60 #[.pointer (some ⟨b, 0, none⟩), .string s] w fun e w' => e = .returned (.tuple #[.int .i64 s.size, .nilIface]) ∧ (Lib.BuilderAtF 83 5 B b (.pointer (some ⟨b, 0, none⟩)) (bs ++ Lib.strCells s) w' ∧ Below B w w' ∧ Lib.OthersKept 5 (some b) w w') := by
  obtain ⟨i0, hi, hz0, hz1, hz2⟩ := info_parts infoByte
  go_enter Tryz.func60, Tryz.ntmps60
  go_wp2_with (go_at_call 94; refine (copyCheck B b bs _ h).mono ?_)
  rintro e w1 ⟨rfl, h1, hb1, hk1⟩
  obtain ⟨hB, v, hbk, hown, hne⟩ := h1
  have c0 : w1.cell? ⟨b, 0, none⟩ = some (.pointer (some ⟨b, 0, none⟩)) := by rw [Lib.cell_of_heap hbk]; rfl
  have c1 : w1.cell? ⟨b, 1, none⟩ = some v := by rw [Lib.cell_of_heap hbk]; rfl
  go_wp2_with (at_builtin; refine Lib.wpList_append_own_stringF _ rfl _ _ 44 9 rfl B 5 i0 Tryz.underlying44 Tryz.underlying9 hi hz0 hz1 hz2 _ _ _ rfl hown s rfl ?c3 ?c4 ?c5 ?_)
  case c3 => unfold maxLen; omega
  case c4 => omega
  case c5 => have := hb1.size; omega
  intro v' w2 hown' hgrow _
  have hlt : b < w1.heap.size := by
    rcases Nat.lt_or_ge b w1.heap.size with h' | h'
    · exact h'
    · simp [Array.getElem?_eq_none h'] at hbk
  have hb2 : w2.heap[b]? = some (.cells #[.pointer (some ⟨b, 0, none⟩), v] 83 (0, 0)) := by
    rw [hgrow.block b hlt (fun e => hne e.symm)]
    exact hbk
  have d0 : w2.cell? ⟨b, 0, none⟩ = some (.pointer (some ⟨b, 0, none⟩)) := by rw [Lib.cell_of_heap hb2]; rfl
  have d1 : w2.cell? ⟨b, 1, none⟩ = some v := by rw [Lib.cell_of_heap hb2]; rfl
  have f1 : w2.frozen? ⟨b, 1, none⟩ = false := Lib.frozen_of_heap hb2 1
  obtain ⟨ao, n', cap, rfl⟩ : ∃ ao n' cap, v' = .slice ao n' cap := by
    rcases hown'.2 with ⟨hv, _⟩ | ⟨g, cap, cur, fz, hv, _⟩
    · exact ⟨_, _, _, hv⟩
    · exact ⟨_, _, _, hv⟩
  go_wp2
  go_ret2
  refine ⟨rfl, ?_, ?_, (hk1.grown hgrow (Lib.ownsRowF_kind hown)).setCell ⟨b, 1, none⟩ rfl _⟩
  · exact Lib.BuilderAtF.put (T := 83) (e := 5) hB hb2 (bs' := bs ++ Lib.strCells s) (by simpa [Lib.strCells_length] using hown') neB5
  · exact (hb1.grown hgrow (by have := hb1.size; omega) (fun k hk => (hown.lt k hk).1)).setCell (p := ⟨b, 1, none⟩) hB _

set_option maxHeartbeats 2000000 in
set_option maxRecDepth 100000 in
theorem WriteByte (B b : Nat) (bs : List Value) (c : Int) (w : World) (h : Lib.IsBuilderF 83 5 B b bs w) (hlen : bs.length + 1 ≤ 140737488355328) (hBw : B ≤ w.heap.size) :
    Calls Tryz.prog 84 #[.pointer (some ⟨b, 0, none⟩), .int .u8 c] w fun e w' => e = .returned .nilIface ∧ (Lib.BuilderAtF 83 5 B b (.pointer (some ⟨b, 0, none⟩)) (bs ++ [.int .u8 c]) w' ∧ Below B w w' ∧ Lib.OthersKept 5 (some b) w w') := by
  obtain ⟨i0, hi, hz0, hz1, hz2⟩ := info_parts infoByte
  go_enter Tryz.func84, Tryz.ntmps84
  go_wp2_with (go_at_call 94; refine (copyCheck B b bs _ h).mono ?_)
  rintro e w1 ⟨rfl, h1, hb1, hk1⟩
  obtain ⟨hB, v, hbk, hown, hne⟩ := h1
  have c0 : w1.cell? ⟨b, 0, none⟩ = some (.pointer (some ⟨b, 0, none⟩)) := by rw [Lib.cell_of_heap hbk]; rfl
  have c1 : w1.cell? ⟨b, 1, none⟩ = some v := by rw [Lib.cell_of_heap hbk]; rfl
  go_wp2_with (at_builtin; refine wpList_append_ownF _ rfl _ _ 44 rfl B 5 i0 (.int .u8 0) 1 1 Tryz.underlying44 hi hz0 hz1 hz2 rfl (by decide) _ _ _ rfl (hown.alloc _) ⟨w1.heap.size, 0, none⟩ 1 1 [.int .u8 c] rfl rfl ?c1 ?c2 ?c3 ?c4 ?c5 ?_)
  case c1 =>
    intro j u hj
    match j, hj with
    | 0, hj => simp at hj; subst hj; simp [Addr.add]
  case c2 => intro u hu; simp at hu; subst hu; rfl
  case c3 => unfold maxLen; omega
  case c4 => omega
  case c5 => have := hb1.size; simp; omega
  intro v' w2 hown' hgrow _
  have hlt : b < w1.heap.size := by
    rcases Nat.lt_or_ge b w1.heap.size with h' | h'
    · exact h'
    · simp [Array.getElem?_eq_none h'] at hbk
  have hb2 : w2.heap[b]? = some (.cells #[.pointer (some ⟨b, 0, none⟩), v] 83 (0, 0)) := by
    rw [hgrow.block b (by simp; omega) (fun e => hne e.symm), Lib.alloc_old w1 _ b hlt]
    exact hbk
  have d0 : w2.cell? ⟨b, 0, none⟩ = some (.pointer (some ⟨b, 0, none⟩)) := by rw [Lib.cell_of_heap hb2]; rfl
  have d1 : w2.cell? ⟨b, 1, none⟩ = some v := by rw [Lib.cell_of_heap hb2]; rfl
  have f1 : w2.frozen? ⟨b, 1, none⟩ = false := Lib.frozen_of_heap hb2 1
  obtain ⟨g, cap, rfl⟩ : ∃ g cap, v' = .slice (some ⟨g, 0, none⟩) (bs.length + 1) cap := by
    rcases hown'.2 with ⟨_, h0⟩ | ⟨g, cap, cur, fz, hv, _⟩
    · omega
    · exact ⟨g, cap, hv⟩
  go_wp2
  go_ret
  refine ⟨rfl, ?_, ?_, ((hk1.alloc _).grown hgrow (Lib.ownsRowF_kind (hown.alloc _))).setCell ⟨b, 1, none⟩ rfl _⟩
  · exact Lib.BuilderAtF.put (T := 83) (e := 5) hB hb2 (bs' := bs ++ [.int .u8 c]) (by simpa using hown') neB5
  · exact ((hb1.alloc (by have := hb1.size; omega) _).grown hgrow (by have := hb1.size; simp; omega) (fun k hk => (hown.lt k hk).1)).setCell (p := ⟨b, 1, none⟩) hB _
end Go.Proofs.YtpfhgolamlnhiaaGreatDoor.Bld

namespace Sv
open Go

/-- The reference's escaping of bytes. -/
def esc1 (attr : Bool) (c : UInt8) : List UInt8 :=
  if c = 38 then [38, 97, 109, 112, 59]
  else if c = 13 then [38, 35, 49, 51, 59]
  else if c = 60 && !attr then [38, 108, 116, 59]
  else if c = 62 && !attr then [38, 103, 116, 59]
  else if c = 34 && attr then [38, 113, 117, 111, 116, 59]
  else [c]

def esc (attr : Bool) : List UInt8 → List UInt8
  | [] => []
  | [c] => esc1 attr c
  | c :: d :: u => if c = 0xC2 ∧ d = 0xA0 then [38, 110, 98, 115, 112, 59] ++ esc attr u else esc1 attr c ++ esc attr (d :: u)

/-- What the program writes for a character; empty: itself. -/
def oth (attr : Bool) (r : Nat) : List UInt8 :=
  if attr then
    if r = 34 then [38, 113, 117, 111, 116, 59]
    else if r = 38 then [38, 97, 109, 112, 59]
    else if r = 160 then [38, 110, 98, 115, 112, 59]
    else if r = 13 then [38, 35, 49, 51, 59]
    else []
  else
    if r = 60 then [38, 108, 116, 59]
    else if r = 62 then [38, 103, 116, 59]
    else if r = 38 then [38, 97, 109, 112, 59]
    else if r = 160 then [38, 110, 98, 115, 112, 59]
    else if r = 13 then [38, 35, 49, 51, 59]
    else []

theorem esc_cons (attr : Bool) (c : UInt8) (t : List UInt8) (h : c ≠ 0xC2 ∨ t.head? ≠ some 0xA0) : esc attr (c :: t) = esc1 attr c ++ esc attr t := by
  cases t with
  | nil => simp [esc]
  | cons d u =>
    rw [esc, if_neg]
    rintro ⟨rfl, rfl⟩
    simp at h

theorem esc_nb (attr : Bool) (t : List UInt8) : esc attr (0xC2 :: 0xA0 :: t) = [38, 110, 98, 115, 112, 59] ++ esc attr t := by
  rw [esc, if_pos ⟨rfl, rfl⟩]

theorem esc1_high (attr : Bool) (c : UInt8) (h : 128 ≤ c.toNat) : esc1 attr c = [c] := by
  unfold esc1
  have : ∀ k : UInt8, k.toNat < 128 → c ≠ k := by
    rintro k hk rfl; omega
  rw [if_neg (this _ (by decide)), if_neg (this _ (by decide)), if_neg (by simp [this 60 (by decide)]), if_neg (by simp [this 62 (by decide)]), if_neg (by simp [this 34 (by decide)])]

/-- What is at a place, as a number. -/
def at' (s : ByteArray) (i : Nat) : Nat := (s.get! i).toNat

theorem size_list (s : ByteArray) : s.data.toList.length = s.size := by
  rw [Array.length_toList]; rfl

theorem drop_get (s : ByteArray) (i : Nat) (h : i < s.size) : s.data.toList.drop i = s.get! i :: s.data.toList.drop (i + 1) := by
  have hl : i < s.data.toList.length := by rw [size_list]; exact h
  rw [List.drop_eq_getElem_cons hl]
  congr 1
  show s.data.toList[i] = s.data[i]!
  have h' : i < s.data.size := h
  rw [getElem!_pos s.data i h', Array.getElem_toList]

theorem drop_end (s : ByteArray) (i : Nat) (h : ¬ i < s.size) : s.data.toList.drop i = [] := by
  apply List.drop_eq_nil_of_le
  rw [size_list]
  omega

theorem dec_low (s : ByteArray) (i : Nat) (h : at' s i < 128) : Utf8.decode s i = (at' s i, 1) := by
  unfold Utf8.decode
  simp only [Nat.add_zero]
  rw [if_pos (show (s.get! i).toNat < 128 from h)]
  rfl

/-- What is read where no ASCII byte stands. -/
structure High (s : ByteArray) (i r n : Nat) : Prop where
  rune : 128 ≤ r
  pos : 1 ≤ n
  fits : i < s.size → i + n ≤ s.size
  bytes : ∀ k, k < n → 128 ≤ at' s (i + k)
  tail : ∀ k, 1 ≤ k → k < n → at' s (i + k) < 192
  nb : r = 160 → n = 2 ∧ at' s i = 0xC2 ∧ at' s (i + 1) = 0xA0
  bn : at' s i = 0xC2 → i + 1 < s.size → at' s (i + 1) = 0xA0 → r = 160

theorem dec_high (s : ByteArray) (i : Nat) (h : 128 ≤ at' s i) : High s i (Utf8.decode s i).1 (Utf8.decode s i).2 := by
  have hb := (s.get! i).toNat_lt
  have hd : ∀ k, at' s k < 256 := fun k => (s.get! k).toNat_lt
  unfold Utf8.decode
  simp only [Nat.add_zero]
  have e : ∀ k, (s.get! k).toNat = at' s k := fun _ => rfl
  simp only [e, Bool.and_eq_true, decide_eq_true_eq, beq_iff_eq]
  have h0 := hd i
  have h1 := hd (i + 1)
  have h2 := hd (i + 2)
  have h3 := hd (i + 3)
  have bad : ¬ (at' s i / 32 = 6 ∧ i + 1 < s.size ∧ at' s (i + 1) / 64 = 2 ∧ 128 ≤ at' s i % 32 * 64 + at' s (i + 1) % 64) → High s i Utf8.runeError 1 := by
    intro hn
    refine ⟨by decide, by omega, by omega, ?_, by omega, by unfold Utf8.runeError; omega, ?_⟩
    · intro k hk; obtain rfl : k = 0 := by omega
      exact h
    · intro a b c; exfalso; apply hn; omega
  split
  · omega
  split
  · rename_i hc
    split
    · rename_i hr
      refine ⟨by simpa using hr, by simp, by simp; omega, ?_, ?_, ?_, ?_⟩
      · intro k hk; simp at hk
        obtain rfl | rfl : k = 0 ∨ k = 1 := by omega
        · exact h
        · omega
      · intro k hk hk'; simp at hk'
        obtain rfl : k = 1 := by omega
        omega
      · intro hr; simp at hr; refine ⟨rfl, ?_, ?_⟩ <;> omega
      · intro a b c; simp [a, c]
    · exact bad (by omega)
  split
  · rename_i hc0 hc
    split
    · rename_i hr
      refine ⟨by simp; omega, by simp, by simp; omega, ?_, ?_, ?_, ?_⟩
      · intro k hk; simp at hk
        obtain rfl | rfl | rfl : k = 0 ∨ k = 1 ∨ k = 2 := by omega
        · exact h
        · omega
        · omega
      · intro k hk hk'; simp at hk'
        obtain rfl | rfl : k = 1 ∨ k = 2 := by omega
        · omega
        · omega
      · intro hr'; simp at hr'; omega
      · intro a b c; omega
    · exact bad (by omega)
  split
  · rename_i hc0 hc1 hc
    split
    · rename_i hr
      refine ⟨by simp; omega, by simp, by simp; omega, ?_, ?_, ?_, ?_⟩
      · intro k hk; simp at hk
        obtain rfl | rfl | rfl | rfl : k = 0 ∨ k = 1 ∨ k = 2 ∨ k = 3 := by omega
        · exact h
        · omega
        · omega
        · omega
      · intro k hk hk'; simp at hk'
        obtain rfl | rfl | rfl : k = 1 ∨ k = 2 ∨ k = 3 := by omega
        · omega
        · omega
        · omega
      · intro hr'; simp at hr'; omega
      · intro a b c; omega
    · exact bad (by omega)
  · exact bad (by omega)

theorem dec_pos (s : ByteArray) (i : Nat) (h : i < s.size) : 1 ≤ (Utf8.decode s i).2 ∧ i + (Utf8.decode s i).2 ≤ s.size := by
  by_cases hl : at' s i < 128
  · rw [dec_low s i hl]; exact ⟨Nat.le_refl _, h⟩
  · have H := dec_high s i (by omega)
    exact ⟨H.pos, H.fits h⟩

/-- The bytes from a place up to another one. -/
def cut (s : ByteArray) (i j : Nat) : List UInt8 := (s.data.toList.take j).drop i

theorem cut_self (s : ByteArray) (i : Nat) : cut s i i = [] := by
  unfold cut; apply List.drop_eq_nil_of_le; rw [List.length_take]; omega

theorem cut_app (s : ByteArray) (i j k : Nat) (h : i ≤ j) (h' : j ≤ k) (_hk : k ≤ s.size) : cut s i j ++ cut s j k = cut s i k := by
  unfold cut
  have e1 : List.drop i (List.take j s.data.toList) = List.take (j - i) (List.drop i s.data.toList) := by rw [List.drop_take]
  have e2 : List.drop j (List.take k s.data.toList) = List.take (k - j) (List.drop j s.data.toList) := by rw [List.drop_take]
  have e3 : List.drop i (List.take k s.data.toList) = List.take (k - i) (List.drop i s.data.toList) := by rw [List.drop_take]
  rw [e1, e2, e3, show k - i = (j - i) + (k - j) by omega, List.take_add, List.drop_drop, show i + (j - i) = j by omega]

theorem cut_step (s : ByteArray) (i : Nat) (h : i < s.size) : cut s i (i + 1) = [s.get! i] := by
  unfold cut
  rw [List.drop_take, show i + 1 - i = 1 by omega, drop_get s i h]
  rfl

/-- Bytes that are not ASCII are as they are, if none of them begins a 160. -/
theorem esc_run (attr : Bool) (s : ByteArray) : ∀ (n i : Nat), i + n ≤ s.size → (∀ k, k < n → 128 ≤ at' s (i + k)) → (∀ k, k < n → ¬ (at' s (i + k) = 0xC2 ∧ i + k + 1 < s.size ∧ at' s (i + k + 1) = 0xA0)) →
    esc attr (s.data.toList.drop i) = cut s i (i + n) ++ esc attr (s.data.toList.drop (i + n)) := by
  intro n
  induction n with
  | zero => intro i _ _ _; rw [Nat.add_zero, cut_self]; rfl
  | succ n ih =>
    intro i hn hb hx
    have hi : i < s.size := by omega
    rw [drop_get s i hi, esc_cons, esc1_high, ih (i + 1) (by omega) (fun k hk => by have := hb (k + 1) (by omega); rwa [show i + (k + 1) = i + 1 + k by omega] at this)
      (fun k hk => by have := hx (k + 1) (by omega); rwa [show i + (k + 1) = i + 1 + k by omega] at this), ← cut_app s i (i + 1) (i + (n + 1)) (by omega) (by omega) (by omega), cut_step s i hi, show i + 1 + n = i + (n + 1) by omega, List.append_assoc]
    · exact hb 0 (by omega)
    · by_cases hc : at' s i = 0xC2
      · right
        by_cases h1 : i + 1 < s.size
        · rw [drop_get s (i + 1) h1]
          intro h
          simp at h
          apply hx 0 (by omega)
          refine ⟨hc, h1, ?_⟩
          show (s.get! (i + 1)).toNat = 160
          rw [h]; rfl
        · rw [drop_end s (i + 1) h1]; simp
      · left
        intro h
        apply hc
        show (s.get! i).toNat = 194
        rw [h]; rfl

/-- What the program's loop hands back, from a place on: 'frm' is the place up to which all is written. -/
def escGo (attr : Bool) (s : ByteArray) : Nat → Nat → Nat → List UInt8
  | 0, _, _ => []
  | f + 1, pos, frm =>
    if pos < s.size then
      if oth attr (Utf8.decode s pos).1 = [] then escGo attr s f (pos + (Utf8.decode s pos).2) frm
      else cut s frm pos ++ oth attr (Utf8.decode s pos).1 ++ escGo attr s f (pos + (Utf8.decode s pos).2) (pos + (Utf8.encode ((Utf8.decode s pos).1 : Nat)).size)
    else cut s frm s.size

theorem oth_low (attr : Bool) (c : UInt8) (h : c.toNat < 128) : esc1 attr c = if oth attr c.toNat = [] then [c] else oth attr c.toNat := by
  have key : ∀ n : Nat, n < 128 → ∀ a : Bool, esc1 a (UInt8.ofNat n) = if oth a n = [] then [UInt8.ofNat n] else oth a n := by decide
  have := key c.toNat h attr
  rwa [UInt8.ofNat_toNat] at this

theorem oth_high (attr : Bool) (r : Nat) (h : 128 ≤ r) (h' : r ≠ 160) : oth attr r = [] := by
  have h1 : r ≠ 34 := by omega
  have h2 : r ≠ 38 := by omega
  have h3 : r ≠ 13 := by omega
  have h4 : r ≠ 60 := by omega
  have h5 : r ≠ 62 := by omega
  unfold oth
  simp [h1, h2, h3, h4, h5, h']

/-- Where something is written, as many bytes are passed by as the character has. -/
theorem enc_width (attr : Bool) (s : ByteArray) (pos : Nat) (hz : oth attr (Utf8.decode s pos).1 ≠ []) : (Utf8.encode ((Utf8.decode s pos).1 : Nat)).size = (Utf8.decode s pos).2 := by
  by_cases hl : at' s pos < 128
  · rw [dec_low s pos hl]
    unfold Utf8.encode Utf8.valid
    have : ((at' s pos : Nat) : Int).toNat = at' s pos := by omega
    simp only [this]
    rw [if_pos]
    · rfl
    · split <;> simp_all <;> omega
  · have H := dec_high s pos (by omega)
    by_cases hr : (Utf8.decode s pos).1 = 160
    · rw [hr, (H.nb hr).1]; rfl
    · exact absurd (oth_high attr _ H.rune hr) hz

theorem oth_len (attr : Bool) (r : Nat) : (oth attr r).length ≤ 6 := by
  unfold oth
  repeat' split
  all_goals simp
theorem cut_len (s : ByteArray) (i j : Nat) : (cut s i j).length ≤ j - i := by
  unfold cut
  rw [List.length_drop, List.length_take]
  omega

theorem esc_go (attr : Bool) (s : ByteArray) : ∀ (f pos frm : Nat), frm ≤ pos → pos ≤ s.size → s.size - pos < f → escGo attr s f pos frm = cut s frm pos ++ esc attr (s.data.toList.drop pos) := by
  intro f
  induction f with
  | zero => intro pos frm _ _ h; omega
  | succ f ih =>
    intro pos frm hf hp hk
    unfold escGo
    by_cases h : pos < s.size
    · rw [if_pos h]
      by_cases hl : at' s pos < 128
      · rw [dec_low s pos hl]
        dsimp only
        have ho := oth_low attr (s.get! pos) hl
        have hc : esc attr (s.data.toList.drop pos) = esc1 attr (s.get! pos) ++ esc attr (s.data.toList.drop (pos + 1)) := by
          rw [drop_get s pos h, esc_cons]
          left
          intro e
          have : at' s pos = 194 := by show (s.get! pos).toNat = 194; rw [e]; rfl
          omega
        rw [hc, ho]
        by_cases hz : oth attr (at' s pos) = []
        · rw [if_pos hz, if_pos (show oth attr (s.get! pos).toNat = [] from hz), ih _ _ (by omega) (by omega) (by omega), ← cut_app s frm pos (pos + 1) hf (by omega) (by omega), cut_step s pos h, List.append_assoc]
        · have he : (Utf8.encode ((at' s pos : Nat) : Int)).size = 1 := by
            unfold Utf8.encode Utf8.valid
            have : ((at' s pos : Nat) : Int).toNat = at' s pos := by omega
            simp only [this]
            rw [if_pos]
            · rfl
            · split <;> simp_all <;> omega
          rw [if_neg hz, if_neg (show ¬ oth attr (s.get! pos).toNat = [] from hz), he, ih _ _ (by omega) (by omega) (by omega), cut_self]
          simp [at']
      · have H := dec_high s pos (by omega)
        generalize (Utf8.decode s pos).1 = r at *
        generalize (Utf8.decode s pos).2 = n at *
        have hfit := H.fits h
        by_cases hr : r = 160
        · subst hr
          obtain ⟨rfl, hc2, ha0⟩ := H.nb rfl
          have e2 : s.get! pos = 0xC2 := UInt8.toNat_inj.1 hc2
          have e0 : s.get! (pos + 1) = 0xA0 := UInt8.toNat_inj.1 ha0
          have hz : oth attr 160 = [38, 110, 98, 115, 112, 59] := by cases attr <;> rfl
          rw [hz, if_neg (by simp), show (Utf8.encode ((160 : Nat) : Int)).size = 2 from rfl, ih _ _ (by omega) (by omega) (by have := H.pos; omega), cut_self, drop_get s pos h, drop_get s (pos + 1) (by omega), e2, e0, esc_nb]
          simp
        · rw [if_pos (oth_high attr r H.rune hr), ih _ _ (by omega) (by omega) (by have := H.pos; omega), esc_run attr s n pos hfit H.bytes, ← cut_app s frm pos (pos + n) hf (by omega) (by omega), List.append_assoc]
          intro k hk ⟨a, b, c⟩
          rcases Nat.eq_zero_or_pos k with rfl | hk0
          · exact hr (H.bn a b c)
          · have := H.tail k hk0 hk
            omega
    · rw [if_neg h, drop_end s pos h]
      obtain rfl : pos = s.size := by omega
      simp [esc]

end Sv

set_option linter.unusedVariables false
set_option linter.unusedSimpArgs false
namespace Go.Proofs.YtpfhgolamlnhiaaGreatDoor
open Go.RowKit

def comStr (r : Int) : ByteArray :=
  if r = 38 then ⟨#[38, 97, 109, 112, 59]⟩ else if r = 160 then ⟨#[38, 110, 98, 115, 112, 59]⟩ else if r = 13 then ⟨#[38, 35, 49, 51, 59]⟩ else ⟨#[]⟩

theorem common_any (r : Int) (w : World) : Calls Tryz.prog 65 #[.int .i32 r] w fun e w' => e = .returned (.string (comStr r)) ∧ w = w' := by
  go_enter Tryz.func65, Tryz.ntmps65
  go_wp2
  all_goals (go_ret; exact ⟨by simp_all [comStr], rfl⟩)

def othB (attr : Bool) (r : Nat) : ByteArray := ⟨(Sv.oth attr r).toArray⟩
theorem oth_false (r : Nat) : othB false r = if r = 60 then ⟨#[38, 108, 116, 59]⟩ else if r = 62 then ⟨#[38, 103, 116, 59]⟩ else comStr r := by
  unfold othB Sv.oth comStr
  by_cases h1 : r = 60
  · simp [h1]
  by_cases h2 : r = 62
  · simp [h2]
  by_cases h3 : r = 38
  · simp [h3]
  by_cases h4 : r = 160
  · simp [h4]
  by_cases h5 : r = 13
  · simp [h5]
  have e3 : ¬ ((r : Int) = 38) := by omega
  have e4 : ¬ ((r : Int) = 160) := by omega
  have e5 : ¬ ((r : Int) = 13) := by omega
  simp [h1, h2, h3, h4, h5, e3, e4, e5]
theorem oth_true (r : Nat) : othB true r = if r = 34 then ⟨#[38, 113, 117, 111, 116, 59]⟩ else comStr r := by
  unfold othB Sv.oth comStr
  by_cases h1 : r = 34
  · simp [h1]
  by_cases h3 : r = 38
  · simp [h3]
  by_cases h4 : r = 160
  · simp [h4]
  by_cases h5 : r = 13
  · simp [h5]
  have e3 : ¬ ((r : Int) = 38) := by omega
  have e4 : ¬ ((r : Int) = 160) := by omega
  have e5 : ¬ ((r : Int) = 13) := by omega
  simp [h1, h3, h4, h5, e3, e4, e5]

theorem escText_any (r : Nat) (w : World) : Calls Tryz.prog 64 #[.int .i32 r] w fun e w' => e = .returned (.string (othB false r)) ∧ w = w' := by
  go_enter Tryz.func64, Tryz.ntmps64
  go_wp2_with (go_at_call 65; refine (common_any _ _).mono ?_; rintro e w' ⟨rfl, rfl⟩)
  all_goals (go_ret; refine ⟨?_, rfl⟩; rw [oth_false]; simp only [beq_iff_eq, beq_eq_false_iff_ne] at *; (split <;> first | rfl | omega | (split <;> first | rfl | omega)))

theorem escAttr_any (r : Nat) (w : World) : Calls Tryz.prog 66 #[.int .i32 r] w fun e w' => e = .returned (.string (othB true r)) ∧ w = w' := by
  go_enter Tryz.func66, Tryz.ntmps66
  go_wp2_with (go_at_call 65; refine (common_any _ _).mono ?_; rintro e w' ⟨rfl, rfl⟩)
  all_goals (go_ret; refine ⟨?_, rfl⟩; rw [oth_true]; simp only [beq_iff_eq, beq_eq_false_iff_ne] at *; (split <;> first | rfl | omega | (split <;> first | rfl | omega)))

/-- The function values. -/
def escFn (attr : Bool) : Value := .func (.func (if attr then 66 else 64)) #[] #[]

theorem oth_none (attr : Bool) (r : Nat) (h : Sv.oth attr r = []) : othB attr r = ⟨#[]⟩ := by unfold othB; rw [h]

theorem cells_cut (s : ByteArray) (i j : Nat) (attr : Bool) (r : Nat) : Lib.strCells (s.extract i j ++ othB attr r) = Lib.byteCells (Sv.cut s i j ++ Sv.oth attr r) := by
  unfold Lib.strCells Lib.byteCells othB Sv.cut
  simp [ByteArray.data_append, ByteArray.data_extract, List.drop_take]
theorem cat_end (acc : List UInt8) (s : ByteArray) (i : Nat) : (⟨acc.toArray⟩ : ByteArray) ++ s.extract i s.size = ⟨(acc ++ Sv.cut s i s.size).toArray⟩ := by
  apply ByteArray.ext
  have h : s.data.toList.length = s.size := Sv.size_list s
  rw [ByteArray.data_append, ByteArray.data_extract]
  apply Array.ext'
  simp [Sv.cut, List.drop_take]
theorem ret_str {a b : ByteArray} (h : a = b) : Ending.returned (.string a) = .returned (.string b) := by rw [h]
theorem below_drew' {B : Nat} {w W : World} (h : Below B w.drew W) : Below B w W := (Below.drew (Below.refl B w)).trans h
theorem oth_empty (attr : Bool) (r : Nat) (h : Sv.oth attr r ≠ []) : (othB attr r).toList.isEmpty = false := by
  unfold othB
  simp [h]
theorem oth_six (attr : Bool) (r : Nat) : (othB attr r).size ≤ 6 := by
  have : (othB attr r).size = (Sv.oth attr r).length := by simp [othB, ByteArray.size]
  rw [this]
  exact Sv.oth_len attr r

set_option maxHeartbeats 4000000 in
set_option maxRecDepth 1000000 in
theorem escape_text (s : ByteArray) (w : World) (hs : s.size ≤ 17592186044416) :
    Calls Tryz.prog 63 #[.string s, .func (.func 64) #[] #[]] w fun e w' => e = .returned (.string ⟨(Sv.esc false s.data.toList).toArray⟩) ∧ Below w.heap.size w w' := by
  have hgo : Sv.escGo false s (s.size + 1) 0 0 = Sv.esc false s.data.toList := by
    rw [Sv.esc_go false s (s.size + 1) 0 0 (by omega) (by omega) (by omega), Sv.cut_self]; rfl
  have HG := Lib.hid hgo
  clear hgo
  go_enter Tryz.func63, Tryz.ntmps63
  go_wp2
  go_loopw [6] (fun f wr => ∃ (pos fuel frm : Nat) (acc : List UInt8), f = .int .i64 frm ∧ Lib.IsBuilderF 83 5 w.heap.size w.heap.size (Lib.byteCells acc) wr ∧ wr.heap[w.heap.size + 1]? = some (.stringIter s pos) ∧ Below w.heap.size w wr ∧ Hid (acc ++ Sv.escGo false s fuel pos frm = Sv.esc false s.data.toList) ∧ s.size + 1 ≤ pos + fuel ∧ frm ≤ pos ∧ pos ≤ s.size ∧ acc.length ≤ 8 * frm) (fun f wr => s.size - wr.iterPos (w.heap.size + 1))
  case atStart =>
    refine ⟨0, s.size + 1, 0, [], rfl, (Lib.IsBuilderF.of (Lib.fresh_isBuilder 83 5 w)).alloc _, ?_, ((Below.refl _ w).alloc (Nat.le_refl _) _).alloc (by simp) _, ?_, by omega, by omega, by omega, by simp⟩
    · have := World.iter_heap (w.alloc (.cells #[.pointer none, .slice none 0 0] 83)) s 0
      simpa using this
    · exact Lib.hid (by rw [HG.out]; rfl)
  case round =>
    obtain ⟨pos, fuel, frm, acc, rfl, hI, hit, hbw, hacc, hfu, hfp, hps, hal⟩ := hrel
    have hsz : w.heap.size + 1 < wr.heap.size := (Array.getElem?_eq_some_iff.1 hit).1
    obtain ⟨f, rfl⟩ : ∃ f, fuel = f + 1 := ⟨fuel - 1, by omega⟩
    by_cases hp : pos < s.size
    · have hnx : ∀ ty, (Instr.next (.pointer (some ⟨w.heap.size + 1, 0, none⟩)) true ty).run Tryz.prog wr = _ := fun ty => Lib.run_next_any_at wr (w.heap.size + 1) s pos ty hit hp
      have hwd := Sv.dec_pos s pos hp
      have hd1 := decode_le s pos
      have hI2 := hI.iterAt hit (pos + (Utf8.decode s pos).2)
      have hit2 := Lib.iterAt_heap wr (w.heap.size + 1) s pos (pos + (Utf8.decode s pos).2) hit
      have hbw2 := Lib.below_iterAt hbw (k := w.heap.size + 1) (by omega) s (pos + (Utf8.decode s pos).2)
      have hsz2 : w.heap.size ≤ (wr.iterAt (w.heap.size + 1) s (pos + (Utf8.decode s pos).2)).heap.size := by rw [Lib.iterAt_size]; omega
      by_cases hz : Sv.oth false (Utf8.decode s pos).1 = []
      · have hz1 := oth_none false _ hz
        have HC : ∀ W, Calls Tryz.prog 64 #[.int .i32 (Utf8.decode s pos).1] W fun e w' => e = .returned (.string ⟨#[]⟩) ∧ W = w' := fun W => by
          rw [← hz1]; exact escText_any _ W
        have HZ := Lib.hid hz
        clear hz hz1
        go_wp2_with (go_at_call 64; refine (HC _).mono ?_; rintro e w' ⟨rfl, rfl⟩)
        go_roundw
        case rel =>
          refine ⟨pos + (Utf8.decode s pos).2, f, frm, acc, rfl, hI2, hit2, hbw2, Lib.hid ?_, by omega, by omega, by omega, hal⟩
          rw [← hacc, Sv.escGo, if_pos hp, if_pos HZ.out]
        case measure =>
          simp only [World.iterPos, hit2, hit]
          omega
      · have hz1 : (othB false (Utf8.decode s pos).1).toList.isEmpty = false := oth_empty _ _ hz
        have hz6 : (othB false (Utf8.decode s pos).1).size ≤ 6 := oth_six _ _
        have hew : pos + (Utf8.encode ((Utf8.decode s pos).1 : Nat)).size ≤ s.size := by rw [Sv.enc_width false s pos hz]; omega
        have HZ := Lib.hid hz
        clear hz
        go_wp2_with (go_at_call 64; refine (escText_any _ _).mono ?_; rintro e w' ⟨rfl, rfl⟩)
        refine (Bld.WriteString w.heap.size w.heap.size _ _ _ hI2 ?_ hsz2).mono ?_
        · rw [Lib.byteCells_length, ByteArray.size_append, ByteArray.size_extract]
          omega
        rintro e W1 ⟨rfl, h1, b1, k1⟩
        go_wp2
        go_roundw
        case rel =>
          refine ⟨pos + (Utf8.decode s pos).2, f, pos + (Utf8.encode ((Utf8.decode s pos).1 : Nat)).size, acc ++ (Sv.cut s frm pos ++ Sv.oth false (Utf8.decode s pos).1), ?_, ?_, k1.iter hit2 (by omega), hbw2.trans b1, Lib.hid ?_, by omega, ?_, by omega, ?_⟩
          · go_num
          · rw [Lib.byteCells_append, ← cells_cut]; exact Or.inr h1
          · rw [← hacc, Sv.escGo, if_pos hp, if_neg HZ.out]; simp
          · rw [Sv.enc_width false s pos HZ.out]; omega
          · have hc := Sv.cut_len s frm pos
            have ho := Sv.oth_len false (Utf8.decode s pos).1
            rw [Sv.enc_width false s pos HZ.out, List.length_append, List.length_append]
            omega
        case measure =>
          simp only [World.iterPos, k1.iter hit2 (by omega), hit]
          omega
    · have hnx : ∀ ty, (Instr.next (.pointer (some ⟨w.heap.size + 1, 0, none⟩)) true ty).run Tryz.prog wr = _ := fun ty => Lib.run_next_end_at wr (w.heap.size + 1) s pos ty hit hp
      have hc := Sv.cut_len s frm s.size
      have hI' : Lib.IsBuilderF 83 5 w.heap.size w.heap.size (Lib.byteCells acc) wr.drew := hI.elim (fun h => .inl h.drew) (fun h => .inr h.drew)
      have hcall := Lib.hid (Tryz.Builder_String_any_k w.heap.size w.heap.size acc _ hI' (show w.heap.size ≤ wr.heap.size by omega))
      have hfin := Lib.hid (show (⟨acc.toArray⟩ : ByteArray) ++ s.extract frm s.size = ⟨(Sv.esc false s.data.toList).toArray⟩ by
        rw [cat_end, ← hacc, Sv.escGo, if_neg hp])
      have haz : acc.length + (s.size - frm) ≤ 9223372036854775807 := by omega
      go_wp2_with fail
      go_region_with (go_at_call 61; refine hcall.out.mono ?_; rintro e W1 ⟨rfl, _, b1, _⟩)
      all_goals
        go_wp2
        go_ret
        exact ⟨ret_str hfin.out, hbw.trans (below_drew' b1)⟩
set_option maxHeartbeats 4000000 in
set_option maxRecDepth 1000000 in
theorem escape_attr (s : ByteArray) (w : World) (hs : s.size ≤ 17592186044416) :
    Calls Tryz.prog 63 #[.string s, .func (.func 66) #[] #[]] w fun e w' => e = .returned (.string ⟨(Sv.esc true s.data.toList).toArray⟩) ∧ Below w.heap.size w w' := by
  have hgo : Sv.escGo true s (s.size + 1) 0 0 = Sv.esc true s.data.toList := by
    rw [Sv.esc_go true s (s.size + 1) 0 0 (by omega) (by omega) (by omega), Sv.cut_self]; rfl
  have HG := Lib.hid hgo
  clear hgo
  go_enter Tryz.func63, Tryz.ntmps63
  go_wp2
  go_loopw [6] (fun f wr => ∃ (pos fuel frm : Nat) (acc : List UInt8), f = .int .i64 frm ∧ Lib.IsBuilderF 83 5 w.heap.size w.heap.size (Lib.byteCells acc) wr ∧ wr.heap[w.heap.size + 1]? = some (.stringIter s pos) ∧ Below w.heap.size w wr ∧ Hid (acc ++ Sv.escGo true s fuel pos frm = Sv.esc true s.data.toList) ∧ s.size + 1 ≤ pos + fuel ∧ frm ≤ pos ∧ pos ≤ s.size ∧ acc.length ≤ 8 * frm) (fun f wr => s.size - wr.iterPos (w.heap.size + 1))
  case atStart =>
    refine ⟨0, s.size + 1, 0, [], rfl, (Lib.IsBuilderF.of (Lib.fresh_isBuilder 83 5 w)).alloc _, ?_, ((Below.refl _ w).alloc (Nat.le_refl _) _).alloc (by simp) _, ?_, by omega, by omega, by omega, by simp⟩
    · have := World.iter_heap (w.alloc (.cells #[.pointer none, .slice none 0 0] 83)) s 0
      simpa using this
    · exact Lib.hid (by rw [HG.out]; rfl)
  case round =>
    obtain ⟨pos, fuel, frm, acc, rfl, hI, hit, hbw, hacc, hfu, hfp, hps, hal⟩ := hrel
    have hsz : w.heap.size + 1 < wr.heap.size := (Array.getElem?_eq_some_iff.1 hit).1
    obtain ⟨f, rfl⟩ : ∃ f, fuel = f + 1 := ⟨fuel - 1, by omega⟩
    by_cases hp : pos < s.size
    · have hnx : ∀ ty, (Instr.next (.pointer (some ⟨w.heap.size + 1, 0, none⟩)) true ty).run Tryz.prog wr = _ := fun ty => Lib.run_next_any_at wr (w.heap.size + 1) s pos ty hit hp
      have hwd := Sv.dec_pos s pos hp
      have hd1 := decode_le s pos
      have hI2 := hI.iterAt hit (pos + (Utf8.decode s pos).2)
      have hit2 := Lib.iterAt_heap wr (w.heap.size + 1) s pos (pos + (Utf8.decode s pos).2) hit
      have hbw2 := Lib.below_iterAt hbw (k := w.heap.size + 1) (by omega) s (pos + (Utf8.decode s pos).2)
      have hsz2 : w.heap.size ≤ (wr.iterAt (w.heap.size + 1) s (pos + (Utf8.decode s pos).2)).heap.size := by rw [Lib.iterAt_size]; omega
      by_cases hz : Sv.oth true (Utf8.decode s pos).1 = []
      · have hz1 := oth_none true _ hz
        have HC : ∀ W, Calls Tryz.prog 66 #[.int .i32 (Utf8.decode s pos).1] W fun e w' => e = .returned (.string ⟨#[]⟩) ∧ W = w' := fun W => by
          rw [← hz1]; exact escAttr_any _ W
        have HZ := Lib.hid hz
        clear hz hz1
        go_wp2_with (go_at_call 66; refine (HC _).mono ?_; rintro e w' ⟨rfl, rfl⟩)
        go_roundw
        case rel =>
          refine ⟨pos + (Utf8.decode s pos).2, f, frm, acc, rfl, hI2, hit2, hbw2, Lib.hid ?_, by omega, by omega, by omega, hal⟩
          rw [← hacc, Sv.escGo, if_pos hp, if_pos HZ.out]
        case measure =>
          simp only [World.iterPos, hit2, hit]
          omega
      · have hz1 : (othB true (Utf8.decode s pos).1).toList.isEmpty = false := oth_empty _ _ hz
        have hz6 : (othB true (Utf8.decode s pos).1).size ≤ 6 := oth_six _ _
        have hew : pos + (Utf8.encode ((Utf8.decode s pos).1 : Nat)).size ≤ s.size := by rw [Sv.enc_width true s pos hz]; omega
        have HZ := Lib.hid hz
        clear hz
        go_wp2_with (go_at_call 66; refine (escAttr_any _ _).mono ?_; rintro e w' ⟨rfl, rfl⟩)
        refine (Bld.WriteString w.heap.size w.heap.size _ _ _ hI2 ?_ hsz2).mono ?_
        · rw [Lib.byteCells_length, ByteArray.size_append, ByteArray.size_extract]
          omega
        rintro e W1 ⟨rfl, h1, b1, k1⟩
        go_wp2
        go_roundw
        case rel =>
          refine ⟨pos + (Utf8.decode s pos).2, f, pos + (Utf8.encode ((Utf8.decode s pos).1 : Nat)).size, acc ++ (Sv.cut s frm pos ++ Sv.oth true (Utf8.decode s pos).1), ?_, ?_, k1.iter hit2 (by omega), hbw2.trans b1, Lib.hid ?_, by omega, ?_, by omega, ?_⟩
          · go_num
          · rw [Lib.byteCells_append, ← cells_cut]; exact Or.inr h1
          · rw [← hacc, Sv.escGo, if_pos hp, if_neg HZ.out]; simp
          · rw [Sv.enc_width true s pos HZ.out]; omega
          · have hc := Sv.cut_len s frm pos
            have ho := Sv.oth_len true (Utf8.decode s pos).1
            rw [Sv.enc_width true s pos HZ.out, List.length_append, List.length_append]
            omega
        case measure =>
          simp only [World.iterPos, k1.iter hit2 (by omega), hit]
          omega
    · have hnx : ∀ ty, (Instr.next (.pointer (some ⟨w.heap.size + 1, 0, none⟩)) true ty).run Tryz.prog wr = _ := fun ty => Lib.run_next_end_at wr (w.heap.size + 1) s pos ty hit hp
      have hc := Sv.cut_len s frm s.size
      have hI' : Lib.IsBuilderF 83 5 w.heap.size w.heap.size (Lib.byteCells acc) wr.drew := hI.elim (fun h => .inl h.drew) (fun h => .inr h.drew)
      have hcall := Lib.hid (Tryz.Builder_String_any_k w.heap.size w.heap.size acc _ hI' (show w.heap.size ≤ wr.heap.size by omega))
      have hfin := Lib.hid (show (⟨acc.toArray⟩ : ByteArray) ++ s.extract frm s.size = ⟨(Sv.esc true s.data.toList).toArray⟩ by
        rw [cat_end, ← hacc, Sv.escGo, if_neg hp])
      have haz : acc.length + (s.size - frm) ≤ 9223372036854775807 := by omega
      go_wp2_with fail
      go_region_with (go_at_call 61; refine hcall.out.mono ?_; rintro e W1 ⟨rfl, _, b1, _⟩)
      all_goals
        go_wp2
        go_ret
        exact ⟨ret_str hfin.out, hbw.trans (below_drew' b1)⟩

/-- serial.Escape: the reference's escaping of a text. -/
theorem Escape_any (s : ByteArray) (w : World) (hs : s.size ≤ 17592186044416) :
    Calls Tryz.prog 36 #[.string s] w fun e w' => e = .returned (.string ⟨(Sv.esc false s.data.toList).toArray⟩) ∧ Below w.heap.size w w' := by
  go_enter Tryz.func36, Tryz.ntmps36
  go_wp2_with (go_at_call 63; refine (escape_text s _ hs).mono ?_; rintro e w1 ⟨rfl, hb⟩)
  go_ret
  exact ⟨rfl, hb⟩

/-- serial.EscapeAttr: of an attribute's value. -/
theorem EscapeAttr_any (s : ByteArray) (w : World) (hs : s.size ≤ 17592186044416) :
    Calls Tryz.prog 37 #[.string s] w fun e w' => e = .returned (.string ⟨(Sv.esc true s.data.toList).toArray⟩) ∧ Below w.heap.size w w' := by
  go_enter Tryz.func37, Tryz.ntmps37
  go_wp2_with (go_at_call 63; refine (escape_attr s _ hs).mono ?_; rintro e w1 ⟨rfl, hb⟩)
  go_ret
  exact ⟨rfl, hb⟩
end Go.Proofs.YtpfhgolamlnhiaaGreatDoor

set_option linter.unusedVariables false
namespace Go.Proofs.YtpfhgolamlnhiaaGreatDoor
open Go.RowKit Go.Proofs.YtpfhgolamlnhiaaGreatDoorW.PrintWords

def x_IndexByte.f (a0 : ByteArray) (a1 : Int) : Option Int := some (Lib.indexByte a0.data.toList a1.toNat.toUInt8)
theorem x_IndexByte.calls (a0 : ByteArray) (a1 : Int) (r : Int) (w : World) (h : x_IndexByte.f a0 a1 = some r) :
    Calls Tryz.prog 86 #[.string a0, .int .u8 a1] w fun e w' => e = .returned (.int .i64 r) ∧ Drawn0 w w' := by
  obtain rfl := Option.some.inj h
  refine (Tryz.strings_IndexByte a0 a1 w).mono ?_
  rintro e w' ⟨rfl, rfl⟩
  exact ⟨rfl, Drawn0.refl _⟩

def x_ValidString.f (a0 : ByteArray) : Option Bool := if a0.size ≤ 9223372036854775807 then some (Lib.validD a0.data.toList) else none
theorem x_ValidString.calls (a0 : ByteArray) (r : Bool) (w : World) (h : x_ValidString.f a0 = some r) (hG1 : G1 w) :
    Calls Tryz.prog 116 #[.string a0] w fun e w' => e = .returned (.bool r) ∧ Below w.heap.size w w' := by
  unfold x_ValidString.f at h
  split at h
  · obtain rfl := Option.some.inj h
    exact Any.utf8_ValidString Tryz.lays196 a0 w ‹_› hG1
  · cases h

/-- A text's escaping: strings of at most 2^44 bytes. -/
def x_Escape.f (a0 : ByteArray) : Option ByteArray := if a0.size ≤ 17592186044416 then some ⟨(Sv.esc false a0.data.toList).toArray⟩ else none
theorem x_Escape.calls (a0 : ByteArray) (r : ByteArray) (w : World) (h : x_Escape.f a0 = some r) :
    Calls Tryz.prog 36 #[.string a0] w fun e w' => e = .returned (.string r) ∧ Below w.heap.size w w' := by
  unfold x_Escape.f at h
  split at h
  · obtain rfl := Option.some.inj h
    exact Escape_any a0 w ‹_›
  · cases h
def x_EscapeAttr.f (a0 : ByteArray) : Option ByteArray := if a0.size ≤ 17592186044416 then some ⟨(Sv.esc true a0.data.toList).toArray⟩ else none
theorem x_EscapeAttr.calls (a0 : ByteArray) (r : ByteArray) (w : World) (h : x_EscapeAttr.f a0 = some r) :
    Calls Tryz.prog 37 #[.string a0] w fun e w' => e = .returned (.string r) ∧ Below w.heap.size w w' := by
  unfold x_EscapeAttr.f at h
  split at h
  · obtain rfl := Option.some.inj h
    exact EscapeAttr_any a0 w ‹_›
  · cases h
end Go.Proofs.YtpfhgolamlnhiaaGreatDoor
