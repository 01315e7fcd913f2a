/- The walks of package serial's escaping: what each call hands back. -/
import Derived.Test.YtpfhgolamlnhiaaDoorProg
import Derived.Test.YtpfhgolamlnhiaaDoorShelf
import Derived.Test.YtpfhgolamlnhiaaDoorBuilder
import Derived.Test.YtpfhgolamlnhiaaDoorEsc
import Derived.WalkKit
import Derived.WalkSpells
import Derived.Lib.Hide
import Derived.BigCall
set_option linter.unusedVariables false
set_option linter.unusedSimpArgs false
namespace Go.Proofs.YtpfhgolamlnhiaaDoor
open Go.RowKit

def comStr (r : Int) : ByteArray :=
  if r = 38 then ⟨#[38, 97, 109, 112, 59]⟩ else if r = 160 then ⟨#[38, 110, 98, 115, 112, 59]⟩ else if r = 13 then ⟨#[38, 35, 49, 51, 59]⟩ else ⟨#[]⟩

theorem common_any (r : Int) (w : World) : Calls Tryd.prog 23 #[.int .i32 r] w fun e w' => e = .returned (.string (comStr r)) ∧ w = w' := by
  go_enter Tryd.func23, Tryd.ntmps23
  go_wp2
  all_goals (go_ret; exact ⟨by simp_all [comStr], rfl⟩)

def othB (attr : Bool) (r : Nat) : ByteArray := ⟨(Sv.oth attr r).toArray⟩
theorem oth_false (r : Nat) : othB false r = if r = 60 then ⟨#[38, 108, 116, 59]⟩ else if r = 62 then ⟨#[38, 103, 116, 59]⟩ else comStr r := by
  unfold othB Sv.oth comStr
  by_cases h1 : r = 60
  · simp [h1]
  by_cases h2 : r = 62
  · simp [h2]
  by_cases h3 : r = 38
  · simp [h3]
  by_cases h4 : r = 160
  · simp [h4]
  by_cases h5 : r = 13
  · simp [h5]
  have e3 : ¬ ((r : Int) = 38) := by omega
  have e4 : ¬ ((r : Int) = 160) := by omega
  have e5 : ¬ ((r : Int) = 13) := by omega
  simp [h1, h2, h3, h4, h5, e3, e4, e5]
theorem oth_true (r : Nat) : othB true r = if r = 34 then ⟨#[38, 113, 117, 111, 116, 59]⟩ else comStr r := by
  unfold othB Sv.oth comStr
  by_cases h1 : r = 34
  · simp [h1]
  by_cases h3 : r = 38
  · simp [h3]
  by_cases h4 : r = 160
  · simp [h4]
  by_cases h5 : r = 13
  · simp [h5]
  have e3 : ¬ ((r : Int) = 38) := by omega
  have e4 : ¬ ((r : Int) = 160) := by omega
  have e5 : ¬ ((r : Int) = 13) := by omega
  simp [h1, h3, h4, h5, e3, e4, e5]

theorem escText_any (r : Nat) (w : World) : Calls Tryd.prog 22 #[.int .i32 r] w fun e w' => e = .returned (.string (othB false r)) ∧ w = w' := by
  go_enter Tryd.func22, Tryd.ntmps22
  go_wp2_with (go_at_call 23; refine (common_any _ _).mono ?_; rintro e w' ⟨rfl, rfl⟩)
  all_goals (go_ret; refine ⟨?_, rfl⟩; rw [oth_false]; simp only [beq_iff_eq, beq_eq_false_iff_ne] at *; (split <;> first | rfl | omega | (split <;> first | rfl | omega)))

theorem escAttr_any (r : Nat) (w : World) : Calls Tryd.prog 24 #[.int .i32 r] w fun e w' => e = .returned (.string (othB true r)) ∧ w = w' := by
  go_enter Tryd.func24, Tryd.ntmps24
  go_wp2_with (go_at_call 23; refine (common_any _ _).mono ?_; rintro e w' ⟨rfl, rfl⟩)
  all_goals (go_ret; refine ⟨?_, rfl⟩; rw [oth_true]; simp only [beq_iff_eq, beq_eq_false_iff_ne] at *; (split <;> first | rfl | omega | (split <;> first | rfl | omega)))

/-- The function values. -/
def escFn (attr : Bool) : Value := .func (.func (if attr then 24 else 22)) #[] #[]

theorem oth_none (attr : Bool) (r : Nat) (h : Sv.oth attr r = []) : othB attr r = ⟨#[]⟩ := by unfold othB; rw [h]

theorem cells_cut (s : ByteArray) (i j : Nat) (attr : Bool) (r : Nat) : Lib.strCells (s.extract i j ++ othB attr r) = Lib.byteCells (Sv.cut s i j ++ Sv.oth attr r) := by
  unfold Lib.strCells Lib.byteCells othB Sv.cut
  simp [ByteArray.data_append, ByteArray.data_extract, List.drop_take]
theorem cat_end (acc : List UInt8) (s : ByteArray) (i : Nat) : (⟨acc.toArray⟩ : ByteArray) ++ s.extract i s.size = ⟨(acc ++ Sv.cut s i s.size).toArray⟩ := by
  apply ByteArray.ext
  have h : s.data.toList.length = s.size := Sv.size_list s
  rw [ByteArray.data_append, ByteArray.data_extract]
  apply Array.ext'
  simp [Sv.cut, List.drop_take]
theorem ret_str {a b : ByteArray} (h : a = b) : Ending.returned (.string a) = .returned (.string b) := by rw [h]
theorem below_drew' {B : Nat} {w W : World} (h : Below B w.drew W) : Below B w W := (Below.drew (Below.refl B w)).trans h
theorem oth_empty (attr : Bool) (r : Nat) (h : Sv.oth attr r ≠ []) : (othB attr r).toList.isEmpty = false := by
  unfold othB
  simp [h]
theorem oth_six (attr : Bool) (r : Nat) : (othB attr r).size ≤ 6 := by
  have : (othB attr r).size = (Sv.oth attr r).length := by simp [othB, ByteArray.size]
  rw [this]
  exact Sv.oth_len attr r

set_option maxHeartbeats 4000000 in
set_option maxRecDepth 1000000 in
theorem escape_text (s : ByteArray) (w : World) (hs : s.size ≤ 17592186044416) :
    Calls Tryd.prog 21 #[.string s, .func (.func 22) #[] #[]] w fun e w' => e = .returned (.string ⟨(Sv.esc false s.data.toList).toArray⟩) ∧ Below w.heap.size w w' := by
  have hgo : Sv.escGo false s (s.size + 1) 0 0 = Sv.esc false s.data.toList := by
    rw [Sv.esc_go false s (s.size + 1) 0 0 (by omega) (by omega) (by omega), Sv.cut_self]; rfl
  have HG := Lib.hid hgo
  clear hgo
  go_enter Tryd.func21, Tryd.ntmps21
  go_wp2
  go_loopw [6] (fun f wr => ∃ (pos fuel frm : Nat) (acc : List UInt8), f = .int .i64 frm ∧ Lib.IsBuilderF 52 5 w.heap.size w.heap.size (Lib.byteCells acc) wr ∧ wr.heap[w.heap.size + 1]? = some (.stringIter s pos) ∧ Below w.heap.size w wr ∧ Hid (acc ++ Sv.escGo false s fuel pos frm = Sv.esc false s.data.toList) ∧ s.size + 1 ≤ pos + fuel ∧ frm ≤ pos ∧ pos ≤ s.size ∧ acc.length ≤ 8 * frm) (fun f wr => s.size - wr.iterPos (w.heap.size + 1))
  case atStart =>
    refine ⟨0, s.size + 1, 0, [], rfl, (Lib.IsBuilderF.of (Lib.fresh_isBuilder 52 5 w)).alloc _, ?_, ((Below.refl _ w).alloc (Nat.le_refl _) _).alloc (by simp) _, ?_, by omega, by omega, by omega, by simp⟩
    · have := World.iter_heap (w.alloc (.cells #[.pointer none, .slice none 0 0] 52)) s 0
      simpa using this
    · exact Lib.hid (by rw [HG.out]; rfl)
  case round =>
    obtain ⟨pos, fuel, frm, acc, rfl, hI, hit, hbw, hacc, hfu, hfp, hps, hal⟩ := hrel
    have hsz : w.heap.size + 1 < wr.heap.size := (Array.getElem?_eq_some_iff.1 hit).1
    obtain ⟨f, rfl⟩ : ∃ f, fuel = f + 1 := ⟨fuel - 1, by omega⟩
    by_cases hp : pos < s.size
    · have hnx : ∀ ty, (Instr.next (.pointer (some ⟨w.heap.size + 1, 0, none⟩)) true ty).run Tryd.prog wr = _ := fun ty => Lib.run_next_any_at wr (w.heap.size + 1) s pos ty hit hp
      have hwd := Sv.dec_pos s pos hp
      have hd1 := decode_le s pos
      have hI2 := hI.iterAt hit (pos + (Utf8.decode s pos).2)
      have hit2 := Lib.iterAt_heap wr (w.heap.size + 1) s pos (pos + (Utf8.decode s pos).2) hit
      have hbw2 := Lib.below_iterAt hbw (k := w.heap.size + 1) (by omega) s (pos + (Utf8.decode s pos).2)
      have hsz2 : w.heap.size ≤ (wr.iterAt (w.heap.size + 1) s (pos + (Utf8.decode s pos).2)).heap.size := by rw [Lib.iterAt_size]; omega
      by_cases hz : Sv.oth false (Utf8.decode s pos).1 = []
      · have hz1 := oth_none false _ hz
        have HC : ∀ W, Calls Tryd.prog 22 #[.int .i32 (Utf8.decode s pos).1] W fun e w' => e = .returned (.string ⟨#[]⟩) ∧ W = w' := fun W => by
          rw [← hz1]; exact escText_any _ W
        have HZ := Lib.hid hz
        clear hz hz1
        go_wp2_with (go_at_call 22; refine (HC _).mono ?_; rintro e w' ⟨rfl, rfl⟩)
        go_roundw
        case rel =>
          refine ⟨pos + (Utf8.decode s pos).2, f, frm, acc, rfl, hI2, hit2, hbw2, Lib.hid ?_, by omega, by omega, by omega, hal⟩
          rw [← hacc, Sv.escGo, if_pos hp, if_pos HZ.out]
        case measure =>
          simp only [World.iterPos, hit2, hit]
          omega
      · have hz1 : (othB false (Utf8.decode s pos).1).toList.isEmpty = false := oth_empty _ _ hz
        have hz6 : (othB false (Utf8.decode s pos).1).size ≤ 6 := oth_six _ _
        have hew : pos + (Utf8.encode ((Utf8.decode s pos).1 : Nat)).size ≤ s.size := by rw [Sv.enc_width false s pos hz]; omega
        have HZ := Lib.hid hz
        clear hz
        go_wp2_with (go_at_call 22; refine (escText_any _ _).mono ?_; rintro e w' ⟨rfl, rfl⟩)
        refine (Bld.WriteString w.heap.size w.heap.size _ _ _ hI2 ?_ hsz2).mono ?_
        · rw [Lib.byteCells_length, ByteArray.size_append, ByteArray.size_extract]
          omega
        rintro e W1 ⟨rfl, h1, b1, k1⟩
        go_wp2
        go_roundw
        case rel =>
          refine ⟨pos + (Utf8.decode s pos).2, f, pos + (Utf8.encode ((Utf8.decode s pos).1 : Nat)).size, acc ++ (Sv.cut s frm pos ++ Sv.oth false (Utf8.decode s pos).1), ?_, ?_, k1.iter hit2 (by omega), hbw2.trans b1, Lib.hid ?_, by omega, ?_, by omega, ?_⟩
          · go_num
          · rw [Lib.byteCells_append, ← cells_cut]; exact Or.inr h1
          · rw [← hacc, Sv.escGo, if_pos hp, if_neg HZ.out]; simp
          · rw [Sv.enc_width false s pos HZ.out]; omega
          · have hc := Sv.cut_len s frm pos
            have ho := Sv.oth_len false (Utf8.decode s pos).1
            rw [Sv.enc_width false s pos HZ.out, List.length_append, List.length_append]
            omega
        case measure =>
          simp only [World.iterPos, k1.iter hit2 (by omega), hit]
          omega
    · have hnx : ∀ ty, (Instr.next (.pointer (some ⟨w.heap.size + 1, 0, none⟩)) true ty).run Tryd.prog wr = _ := fun ty => Lib.run_next_end_at wr (w.heap.size + 1) s pos ty hit hp
      have hc := Sv.cut_len s frm s.size
      have hI' : Lib.IsBuilderF 52 5 w.heap.size w.heap.size (Lib.byteCells acc) wr.drew := hI.elim (fun h => .inl h.drew) (fun h => .inr h.drew)
      have hcall := Lib.hid (Tryd.Builder_String_any_k w.heap.size w.heap.size acc _ hI' (show w.heap.size ≤ wr.heap.size by omega))
      have hfin := Lib.hid (show (⟨acc.toArray⟩ : ByteArray) ++ s.extract frm s.size = ⟨(Sv.esc false s.data.toList).toArray⟩ by
        rw [cat_end, ← hacc, Sv.escGo, if_neg hp])
      have haz : acc.length + (s.size - frm) ≤ 9223372036854775807 := by omega
      go_wp2_with fail
      go_region_with (go_at_call 29; refine hcall.out.mono ?_; rintro e W1 ⟨rfl, _, b1, _⟩)
      all_goals
        go_wp2
        go_ret
        exact ⟨ret_str hfin.out, hbw.trans (below_drew' b1)⟩
set_option maxHeartbeats 4000000 in
set_option maxRecDepth 1000000 in
theorem escape_attr (s : ByteArray) (w : World) (hs : s.size ≤ 17592186044416) :
    Calls Tryd.prog 21 #[.string s, .func (.func 24) #[] #[]] w fun e w' => e = .returned (.string ⟨(Sv.esc true s.data.toList).toArray⟩) ∧ Below w.heap.size w w' := by
  have hgo : Sv.escGo true s (s.size + 1) 0 0 = Sv.esc true s.data.toList := by
    rw [Sv.esc_go true s (s.size + 1) 0 0 (by omega) (by omega) (by omega), Sv.cut_self]; rfl
  have HG := Lib.hid hgo
  clear hgo
  go_enter Tryd.func21, Tryd.ntmps21
  go_wp2
  go_loopw [6] (fun f wr => ∃ (pos fuel frm : Nat) (acc : List UInt8), f = .int .i64 frm ∧ Lib.IsBuilderF 52 5 w.heap.size w.heap.size (Lib.byteCells acc) wr ∧ wr.heap[w.heap.size + 1]? = some (.stringIter s pos) ∧ Below w.heap.size w wr ∧ Hid (acc ++ Sv.escGo true s fuel pos frm = Sv.esc true s.data.toList) ∧ s.size + 1 ≤ pos + fuel ∧ frm ≤ pos ∧ pos ≤ s.size ∧ acc.length ≤ 8 * frm) (fun f wr => s.size - wr.iterPos (w.heap.size + 1))
  case atStart =>
    refine ⟨0, s.size + 1, 0, [], rfl, (Lib.IsBuilderF.of (Lib.fresh_isBuilder 52 5 w)).alloc _, ?_, ((Below.refl _ w).alloc (Nat.le_refl _) _).alloc (by simp) _, ?_, by omega, by omega, by omega, by simp⟩
    · have := World.iter_heap (w.alloc (.cells #[.pointer none, .slice none 0 0] 52)) s 0
      simpa using this
    · exact Lib.hid (by rw [HG.out]; rfl)
  case round =>
    obtain ⟨pos, fuel, frm, acc, rfl, hI, hit, hbw, hacc, hfu, hfp, hps, hal⟩ := hrel
    have hsz : w.heap.size + 1 < wr.heap.size := (Array.getElem?_eq_some_iff.1 hit).1
    obtain ⟨f, rfl⟩ : ∃ f, fuel = f + 1 := ⟨fuel - 1, by omega⟩
    by_cases hp : pos < s.size
    · have hnx : ∀ ty, (Instr.next (.pointer (some ⟨w.heap.size + 1, 0, none⟩)) true ty).run Tryd.prog wr = _ := fun ty => Lib.run_next_any_at wr (w.heap.size + 1) s pos ty hit hp
      have hwd := Sv.dec_pos s pos hp
      have hd1 := decode_le s pos
      have hI2 := hI.iterAt hit (pos + (Utf8.decode s pos).2)
      have hit2 := Lib.iterAt_heap wr (w.heap.size + 1) s pos (pos + (Utf8.decode s pos).2) hit
      have hbw2 := Lib.below_iterAt hbw (k := w.heap.size + 1) (by omega) s (pos + (Utf8.decode s pos).2)
      have hsz2 : w.heap.size ≤ (wr.iterAt (w.heap.size + 1) s (pos + (Utf8.decode s pos).2)).heap.size := by rw [Lib.iterAt_size]; omega
      by_cases hz : Sv.oth true (Utf8.decode s pos).1 = []
      · have hz1 := oth_none true _ hz
        have HC : ∀ W, Calls Tryd.prog 24 #[.int .i32 (Utf8.decode s pos).1] W fun e w' => e = .returned (.string ⟨#[]⟩) ∧ W = w' := fun W => by
          rw [← hz1]; exact escAttr_any _ W
        have HZ := Lib.hid hz
        clear hz hz1
        go_wp2_with (go_at_call 24; refine (HC _).mono ?_; rintro e w' ⟨rfl, rfl⟩)
        go_roundw
        case rel =>
          refine ⟨pos + (Utf8.decode s pos).2, f, frm, acc, rfl, hI2, hit2, hbw2, Lib.hid ?_, by omega, by omega, by omega, hal⟩
          rw [← hacc, Sv.escGo, if_pos hp, if_pos HZ.out]
        case measure =>
          simp only [World.iterPos, hit2, hit]
          omega
      · have hz1 : (othB true (Utf8.decode s pos).1).toList.isEmpty = false := oth_empty _ _ hz
        have hz6 : (othB true (Utf8.decode s pos).1).size ≤ 6 := oth_six _ _
        have hew : pos + (Utf8.encode ((Utf8.decode s pos).1 : Nat)).size ≤ s.size := by rw [Sv.enc_width true s pos hz]; omega
        have HZ := Lib.hid hz
        clear hz
        go_wp2_with (go_at_call 24; refine (escAttr_any _ _).mono ?_; rintro e w' ⟨rfl, rfl⟩)
        refine (Bld.WriteString w.heap.size w.heap.size _ _ _ hI2 ?_ hsz2).mono ?_
        · rw [Lib.byteCells_length, ByteArray.size_append, ByteArray.size_extract]
          omega
        rintro e W1 ⟨rfl, h1, b1, k1⟩
        go_wp2
        go_roundw
        case rel =>
          refine ⟨pos + (Utf8.decode s pos).2, f, pos + (Utf8.encode ((Utf8.decode s pos).1 : Nat)).size, acc ++ (Sv.cut s frm pos ++ Sv.oth true (Utf8.decode s pos).1), ?_, ?_, k1.iter hit2 (by omega), hbw2.trans b1, Lib.hid ?_, by omega, ?_, by omega, ?_⟩
          · go_num
          · rw [Lib.byteCells_append, ← cells_cut]; exact Or.inr h1
          · rw [← hacc, Sv.escGo, if_pos hp, if_neg HZ.out]; simp
          · rw [Sv.enc_width true s pos HZ.out]; omega
          · have hc := Sv.cut_len s frm pos
            have ho := Sv.oth_len true (Utf8.decode s pos).1
            rw [Sv.enc_width true s pos HZ.out, List.length_append, List.length_append]
            omega
        case measure =>
          simp only [World.iterPos, k1.iter hit2 (by omega), hit]
          omega
    · have hnx : ∀ ty, (Instr.next (.pointer (some ⟨w.heap.size + 1, 0, none⟩)) true ty).run Tryd.prog wr = _ := fun ty => Lib.run_next_end_at wr (w.heap.size + 1) s pos ty hit hp
      have hc := Sv.cut_len s frm s.size
      have hI' : Lib.IsBuilderF 52 5 w.heap.size w.heap.size (Lib.byteCells acc) wr.drew := hI.elim (fun h => .inl h.drew) (fun h => .inr h.drew)
      have hcall := Lib.hid (Tryd.Builder_String_any_k w.heap.size w.heap.size acc _ hI' (show w.heap.size ≤ wr.heap.size by omega))
      have hfin := Lib.hid (show (⟨acc.toArray⟩ : ByteArray) ++ s.extract frm s.size = ⟨(Sv.esc true s.data.toList).toArray⟩ by
        rw [cat_end, ← hacc, Sv.escGo, if_neg hp])
      have haz : acc.length + (s.size - frm) ≤ 9223372036854775807 := by omega
      go_wp2_with fail
      go_region_with (go_at_call 29; refine hcall.out.mono ?_; rintro e W1 ⟨rfl, _, b1, _⟩)
      all_goals
        go_wp2
        go_ret
        exact ⟨ret_str hfin.out, hbw.trans (below_drew' b1)⟩

/-- serial.Escape: the reference's escaping of a text. -/
theorem Escape_any (s : ByteArray) (w : World) (hs : s.size ≤ 17592186044416) :
    Calls Tryd.prog 9 #[.string s] w fun e w' => e = .returned (.string ⟨(Sv.esc false s.data.toList).toArray⟩) ∧ Below w.heap.size w w' := by
  go_enter Tryd.func9, Tryd.ntmps9
  go_wp2_with (go_at_call 21; refine (escape_text s _ hs).mono ?_; rintro e w1 ⟨rfl, hb⟩)
  go_ret
  exact ⟨rfl, hb⟩

/-- serial.EscapeAttr: of an attribute's value. -/
theorem EscapeAttr_any (s : ByteArray) (w : World) (hs : s.size ≤ 17592186044416) :
    Calls Tryd.prog 11 #[.string s] w fun e w' => e = .returned (.string ⟨(Sv.esc true s.data.toList).toArray⟩) ∧ Below w.heap.size w w' := by
  go_enter Tryd.func11, Tryd.ntmps11
  go_wp2_with (go_at_call 21; refine (escape_attr s _ hs).mono ?_; rintro e w1 ⟨rfl, hb⟩)
  go_ret
  exact ⟨rfl, hb⟩
end Go.Proofs.YtpfhgolamlnhiaaDoor
