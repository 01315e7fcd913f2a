/- token.reader: what is left to be read. -/
import Derived.Test.YtpfhgolamlnhiaaGreatDoorChar
import Derived.Test.YtpfhgolamlnhiaaGreatDoorShelf
import Derived.Test.YtpfhgolamlnhiaaGreatDoorXQ
set_option linter.unusedVariables false
set_option linter.unusedSimpArgs false
namespace Go.Proofs.YtpfhgolamlnhiaaGreatDoor
open Go.RowKit Go.Proofs.YtpfhgolamlnhiaaGreatDoorW.PrintWords

/-- A reader's box. -/
def RdAt (g : Nat) (s : ByteArray) (i : Nat) (out : Value) (w : World) : Prop := w.heap[g]? = some (.cells #[.string s, .int .i64 i, out] 109 (0, 0))
theorem RdAt.below {g : Nat} {s : ByteArray} {i : Nat} {out : Value} {w w' : World} (h : RdAt g s i out w) (hb : Below w.heap.size w w') : RdAt g s i out w' := (hb.block _ (blk_lt h)).trans h
/-- Nothing but block g, and what is new, has changed. -/
structure Fr (g : Nat) (w w' : World) : Prop where
  os : w'.os = w.os
  tape : w'.tape = w.tape
  output : w'.output = w.output
  size : w.heap.size ≤ w'.heap.size
  block : ∀ k, k < w.heap.size → k ≠ g → w'.heap[k]? = w.heap[k]?
theorem Fr.refl (g : Nat) (w : World) : Fr g w w := ⟨rfl, rfl, rfl, Nat.le_refl _, fun _ _ _ => rfl⟩
theorem Fr.of_below {g : Nat} {w w' : World} (h : Below w.heap.size w w') : Fr g w w' := ⟨h.os, h.tape, h.output, h.size, fun k hk _ => h.block k hk⟩
theorem Fr.trans {g : Nat} {a b c : World} (h : Fr g a b) (k : Fr g b c) : Fr g a c :=
  ⟨k.os.trans h.os, k.tape.trans h.tape, k.output.trans h.output, Nat.le_trans h.size k.size, fun i hi hg => (k.block i (Nat.lt_of_lt_of_le hi h.size) hg).trans (h.block i hi hg)⟩
theorem Fr.set {g : Nat} {a b : World} (h : Fr g a b) (i : Nat) (u : Value) : Fr g a (b.setCell ⟨g, i, none⟩ u) := by
  have hb := (Below.refl g b).setCell (p := ⟨g, i, none⟩) (Nat.le_refl _) u
  exact ⟨hb.os.trans h.os, hb.tape.trans h.tape, hb.output.trans h.output, Nat.le_trans h.size hb.size, fun k hk hg => (Below.heap_setCell b ⟨g, i, none⟩ u k hg).trans (h.block k hk hg)⟩
theorem Fr.keep {g : Nat} {w w' : World} (h : Fr g w w') : KeepBut w w' g none := ⟨h.size, fun i hi hg _ => h.block i hi hg⟩
theorem Fr.below {g B : Nat} {w0 w w' : World} (h : Fr g w w') (hb : Below B w0 w) (hg : B ≤ g) (hB : B ≤ w.heap.size) : Below B w0 w' :=
  hb.trans ⟨h.os, h.tape, h.output, h.size, fun k hk => h.block k (Nat.lt_of_lt_of_le hk hB) (by omega)⟩
theorem RdAt.cell0 {g : Nat} {s : ByteArray} {i : Nat} {out : Value} {w : World} (h : RdAt g s i out w) : w.cell? ⟨g, 0, none⟩ = some (.string s) := by rw [blk_cell h]; rfl
theorem RdAt.cell1 {g : Nat} {s : ByteArray} {i : Nat} {out : Value} {w : World} (h : RdAt g s i out w) : w.cell? ⟨g, 1, none⟩ = some (.int .i64 i) := by rw [blk_cell h]; rfl
theorem RdAt.cell2 {g : Nat} {s : ByteArray} {i : Nat} {out : Value} {w : World} (h : RdAt g s i out w) : w.cell? ⟨g, 2, none⟩ = some out := by rw [blk_cell h]; rfl
theorem RdAt.frz {g : Nat} {s : ByteArray} {i : Nat} {out : Value} {w : World} (h : RdAt g s i out w) (j : Nat) : w.frozen? ⟨g, j, none⟩ = false := blk_frozen h j
theorem RdAt.at_ {g : Nat} {s : ByteArray} {i : Nat} {out : Value} {w : World} (h : RdAt g s i out w) (j : Nat) {z : Int} (hz : z = j) : RdAt g s j out (w.setCell ⟨g, 1, none⟩ (.int .i64 z)) := blk_put h 1 _ (by rw [hz]; rfl)
set_option maxRecDepth 100000 in
theorem rest_calls (g : Nat) (s : ByteArray) (i : Nat) (out : Value) (w : World) (h : RdAt g s i out w) (hi : i ≤ s.size) :
    Calls Tryz.prog 102 #[.pointer (some ⟨g, 0, none⟩)] w fun e w' => e = .returned (.string (s.extract i s.size)) ∧ Drawn0 w w' := by
  have c0 : w.cell? ⟨g, 0, none⟩ = some (.string s) := by rw [blk_cell h]; rfl
  have c1 : w.cell? ⟨g, 1, none⟩ = some (.int .i64 i) := by rw [blk_cell h]; rfl
  clear h
  go_enter Tryz.func102, Tryz.ntmps102
  go_wp2_with fail
  go_quiet (fail)
  go_wp2
  go_ret
  exact ⟨rfl, ⟨⟨_, rfl⟩⟩⟩
set_option maxRecDepth 100000 in
theorem has_calls (g : Nat) (s : ByteArray) (i : Nat) (out : Value) (p : ByteArray) (w : World) (h : RdAt g s i out w) (hi : i ≤ s.size) :
    Calls Tryz.prog 147 #[.pointer (some ⟨g, 0, none⟩), .string p] w fun e w' => e = .returned (.bool (Lib.hasPrefix (s.data.toList.drop i) p.data.toList)) ∧ Drawn0 w w' := by
  go_enter Tryz.func147, Tryz.ntmps147
  go_wp2_with (first | (go_at_call 102; refine (rest_calls g s i out _ h hi).mono ?_; rintro e w1 ⟨rfl, hd1⟩) | (go_at_call 107; refine (Tryz.strings_HasPrefix _ _ _).mono ?_; rintro e w2 ⟨rfl, rfl⟩))
  go_ret
  have e : List.take (s.size - i) (List.drop i s.data.toList) = List.drop i s.data.toList := List.take_of_length_le (by simp [Sv.size_list])
  refine ⟨?_, hd1⟩
  show Ending.returned (.bool (Lib.hasPrefix (List.take (s.size - i) (List.drop i s.data.toList)) p.data.toList)) = _
  rw [e]
end Go.Proofs.YtpfhgolamlnhiaaGreatDoor

set_option linter.unusedVariables false
set_option linter.unusedSimpArgs false
namespace Go.Proofs.YtpfhgolamlnhiaaGreatDoor
open Go.RowKit Go.Proofs.YtpfhgolamlnhiaaGreatDoorW.PrintWords

def uptoGo (st : List UInt8) (s : ByteArray) : Nat → Nat → Nat
  | 0, n => n
  | f + 1, n => if n < s.size ∧ Lib.indexByte st (Sv.at' s n).toUInt8 < 0 then uptoGo st s f (n + 1) else n
theorem uptoGo_le (st : List UInt8) (s : ByteArray) : ∀ (f n : Nat), n ≤ s.size → n ≤ uptoGo st s f n ∧ uptoGo st s f n ≤ s.size
  | 0, n, h => ⟨Nat.le_refl _, h⟩
  | f + 1, n, h => by
    unfold uptoGo
    split
    · have := uptoGo_le st s f (n + 1) (by omega); omega
    · exact ⟨Nat.le_refl _, h⟩
def uptoN (st : List UInt8) (s : ByteArray) : Nat := uptoGo st s (s.size + 1) 0
set_option maxHeartbeats 2000000 in
set_option maxRecDepth 100000 in
theorem upto_calls (g : Nat) (s : ByteArray) (i : Nat) (out : Value) (st : ByteArray) (w : World) (h : RdAt g s i out w) (hi : i ≤ s.size) (hs : s.size ≤ 4611686018427387904) :
    Calls Tryz.prog 132 #[.pointer (some ⟨g, 0, none⟩), .string st] w fun e w' => e = .returned (.string ((s.extract i s.size).extract 0 (uptoN st.data.toList (s.extract i s.size)))) ∧ RdAt g s (i + uptoN st.data.toList (s.extract i s.size)) out w' ∧ Fr g w w' := by
  have hxs : (s.extract i s.size).size = s.size - i := by rw [ByteArray.size_extract]; omega
  have HU : Hid (uptoN st.data.toList (s.extract i s.size) = uptoGo st.data.toList (s.extract i s.size) ((s.extract i s.size).size + 1) 0) := rfl
  go_enter Tryz.func132, Tryz.ntmps132
  go_upto_block 0 with (go_at_call 102; refine (rest_calls g s i out _ h hi).mono ?_; rintro e w1 ⟨rfl, hd1⟩)
  have h1 : RdAt g s i out w1 := h.below hd1.below
  have hk1 : Fr g w w1 := Fr.of_below hd1.below
  have hun := uptoGo_le st.data.toList (s.extract i s.size) ((s.extract i s.size).size + 1) 0 (by omega)
  rw [← HU.out] at hun
  generalize hNe : uptoN st.data.toList (s.extract i s.size) = N at *
  generalize hRe : s.extract i s.size = R at *
  have HNe := Lib.hid hNe
  have HRe := Lib.hid hRe
  clear hNe hRe
  clear h hd1
  go_cut [6] from 9 to 22 (fun v6 wd => v6 = .int .i64 N ∧ wd = w1)
  case first =>
    go_wp2_with fail
    go_loopw [6] (fun v6 wz => ∃ (n f : Nat), v6 = .int .i64 n ∧ n ≤ R.size ∧ R.size - n < f ∧ Hid (N = uptoGo st.data.toList R f n) ∧ wz = w1) (fun v6 wz => R.size - (intOf v6).toNat)
    case atStart => exact ⟨0, R.size + 1, rfl, by omega, by omega, HU, rfl⟩
    case round =>
      obtain ⟨n, f, rfl, hn, hf, hN, rfl⟩ := hrel
      obtain ⟨f, rfl⟩ : ∃ m, f = m + 1 := ⟨f - 1, by omega⟩
      have hg := hN.out
      rw [uptoGo] at hg
      clear hN
      by_cases hlt : n < R.size
      · rw [at_get R n hlt] at hg
        have IB := fun (w : World) => Tryz.strings_IndexByte st (R[n].toNat : Int) w
        rw [Int.toNat_natCast] at IB
        generalize Lib.indexByte st.data.toList R[n].toNat.toUInt8 = ix at *
        have HR := Lib.hid hg
        clear hg
        go_wp2_with (go_at_call 86; refine (IB _).mono ?_; rintro e w2 ⟨rfl, rfl⟩)
        · rename_i hc
          have hr := HR.out
          rw [if_pos ⟨hlt, hc⟩] at hr
          exact ⟨⟨n + 1, f, by go_num, by omega, by omega, Lib.hid hr, trivial⟩, by simp [intOf]; omega⟩
        · rename_i hc
          go_meet
          case rel =>
            have hr := HR.out
            rw [if_neg (by omega)] at hr
            exact ⟨by rw [hr], rfl⟩
      · rw [if_neg (by omega)] at hg
        have HR := Lib.hid hg
        clear hg
        go_wp2_with fail
        go_meet
        case rel => exact ⟨by rw [HR.out], rfl⟩
  case rest =>
    obtain ⟨rfl, rfl⟩ := hcut
    have c1 : wc.cell? ⟨g, 1, none⟩ = some (.int .i64 i) := by rw [blk_cell h1]; rfl
    have f1 := blk_frozen h1 1
    have hN2 : (N : Int) ≤ (R.size : Int) := by omega
    go_wp2_with fail
    go_ret
    rw [HRe.out, HNe.out]
    refine ⟨rfl, ?_, hk1.set 1 _⟩
    exact blk_put h1 1 _ (by rw [show ((i + N : Nat) : Int) = (i : Int) + (N : Int) by omega]; rfl)
end Go.Proofs.YtpfhgolamlnhiaaGreatDoor

set_option linter.unusedVariables false
set_option linter.unusedSimpArgs false
namespace Go.Proofs.YtpfhgolamlnhiaaGreatDoor
open Go.RowKit Go.Proofs.YtpfhgolamlnhiaaGreatDoorW.PrintWords
def blanks : ByteArray := ⟨#[9, 10, 12, 32]⟩
set_option maxRecDepth 100000 in
theorem trimLeft_calls (s : ByteArray) (w : World) :
    Calls Tryz.prog 169 #[.string s, .string ⟨#[9, 10, 12, 32]⟩] w fun e w' => e = .returned (.string ⟨(Lib.trimLeftS s.data.toList [9, 10, 12, 32]).toArray⟩) ∧ Below w.heap.size w w' := by
  refine Any.strings_TrimLeft_ascii Tryz.lays161x Tryz.zeroValue153 (by kernel_rfl) s ⟨#[9, 10, 12, 32]⟩ w (by decide) ?_
  intro j b h
  have hb : b ∈ ([9, 10, 12, 32] : List UInt8) := List.mem_of_getElem? h
  have all : ∀ x ∈ ([9, 10, 12, 32] : List UInt8), x.toNat < 128 := by decide
  exact all b hb
def skipLen (s : ByteArray) (i : Nat) : Nat := (Lib.trimLeftS (s.extract i s.size).data.toList [9, 10, 12, 32]).length
theorem skipLen_le (s : ByteArray) (i : Nat) : skipLen s i ≤ s.size := by
  unfold skipLen
  have h : ∀ (l st : List UInt8), (Lib.trimLeftS l st).length ≤ l.length := by
    intro l st
    unfold Lib.trimLeftS
    exact (List.dropWhile_sublist _).length_le
  refine Nat.le_trans (h _ _) ?_
  rw [Sv.size_list, ByteArray.size_extract]
  omega
set_option maxHeartbeats 1000000 in
set_option maxRecDepth 100000 in
theorem skip_calls (g : Nat) (s : ByteArray) (i : Nat) (out : Value) (w : World) (h : RdAt g s i out w) (hi : i ≤ s.size) (hs : s.size ≤ 4611686018427387904) :
    Calls Tryz.prog 146 #[.pointer (some ⟨g, 0, none⟩)] w fun e w' => e = .returned (.tuple #[]) ∧ RdAt g s (s.size - skipLen s i) out w' ∧ Fr g w w' := by
  have hk := skipLen_le s i
  have hkd : Hid (skipLen s i = (Lib.trimLeftS (s.extract i s.size).data.toList [9, 10, 12, 32]).length) := rfl
  generalize skipLen s i = N at *
  have c0 := h.cell0
  have H := Lib.hid h
  clear h
  have RC := fun (w' : World) (hb : Below w.heap.size w w') => rest_calls g s i out w' (H.out.below hb) hi
  have TC := trimLeft_calls (s.extract i s.size)
  generalize s.extract i s.size = R at *
  generalize Lib.trimLeftS R.data.toList [9, 10, 12, 32] = T at *
  have hT : T.length = N := hkd.out.symm
  go_enter Tryz.func146, Tryz.ntmps146
  go_wp2_with fail
  go_region_held3 (fun w' => w'.cell? ⟨g, 0, none⟩ = some (.string s))
    (first | go_keep | (exact pw_cell_below hb2 (pw_cell_below hd1.below c0)) | (exact pw_cell_below hd1.below c0) | (exact (blk_cell (blk_set h2 1 _) 0).trans rfl))
    (first | (go_at_call 102; refine (RC _ (by exact Below.drew (Below.refl _ _))).mono ?_; rintro e w1 ⟨rfl, hd1⟩) | (go_at_call 169; refine (TC _).mono ?_; rintro e w2 ⟨rfl, hb2⟩; have h2 : RdAt g s i out w2 := (RdAt.below (w := w.drew) H.out hd1.below).below hb2; have f1 := h2.frz 1; have c1 := h2.cell1))
  go_end0
  have hz : IntKind.i64.wrap ((s.size : Int) - (N : Int)) = ((s.size - N : Nat) : Int) := by rw [IntWalk.i64_in _ (by omega)]; omega
  have fr : Fr g w w2 := (Fr.of_below (Below.drew (Below.refl _ _))).trans ((Fr.of_below hd1.below).trans (Fr.of_below hb2))
  exact ⟨rfl, h2.at_ _ hz, fr.set 1 _⟩
end Go.Proofs.YtpfhgolamlnhiaaGreatDoor

set_option linter.unusedVariables false
set_option linter.unusedSimpArgs false
namespace Go.Proofs.YtpfhgolamlnhiaaGreatDoor
open Go.RowKit Go.Proofs.YtpfhgolamlnhiaaGreatDoorW.PrintWords Go.Proofs.YtpfhgolamlnhiaaGreatDoor.XT Go.Proofs.YtpfhgolamlnhiaaGreatDoor.XQ

abbrev TokD := S25
def letB (c : Nat) : Bool := (token_letter.f (c : Int)).getD false
theorem letB_eq (c : Nat) : token_letter.f (c : Int) = some (letB c) := by
  unfold letB token_letter.f
  split <;> rfl
/-- Does a text end at this '<'? -/
def stopsAt (s : ByteArray) (j : Nat) : Bool := Sv.at' s j == 60 && (j + 1 != s.size && (letB (Sv.at' s (j + 1)) || (Sv.at' s (j + 1) == 47 || (Sv.at' s (j + 1) == 33 || Sv.at' s (j + 1) == 63))))
def textGo (s : ByteArray) : Nat → Nat → Nat
  | 0, j => j
  | f + 1, j => if j < s.size then (if stopsAt s j then j else textGo s f (j + 1)) else j
theorem textGo_le (s : ByteArray) : ∀ (f j : Nat), j ≤ s.size → j ≤ textGo s f j ∧ textGo s f j ≤ s.size
  | 0, j, h => ⟨Nat.le_refl _, h⟩
  | f + 1, j, h => by
    unfold textGo
    split
    · split
      · exact ⟨Nat.le_refl _, h⟩
      · have := textGo_le s f (j + 1) (by omega); omega
    · exact ⟨Nat.le_refl _, h⟩
def textEnd (s : ByteArray) (i : Nat) : Nat := textGo s (s.size + 1) (i + 1)
def skipTo (s : ByteArray) (i : Nat) : Nat := s.size - skipLen s i
def hasAt (s : ByteArray) (i : Nat) (p : List UInt8) : Bool := Lib.hasPrefix (s.data.toList.drop i) p
/-- How the next token is read, by what is left: 0 a text, 1 a start tag, 2 an end tag, 3 a comment, 4 a mark. -/
def nextN (R : ByteArray) : Nat :=
  if R.size < 2 then 0 else if Sv.at' R 0 ≠ 60 then 0 else if letB (Sv.at' R 1) = true then 1 else if Sv.at' R 1 = 47 then 2
  else if Lib.hasPrefix R.data.toList [60, 33, 45, 45] = true then 3 else if Sv.at' R 1 = 33 then 4 else if Sv.at' R 1 = 63 then 4 else 0
/-- A word in small letters. -/
def smallB (c : UInt8) : UInt8 := if 65 ≤ c ∧ c ≤ 90 then c + 32 else c
def smallS (s : ByteArray) : ByteArray := ⟨(s.data.toList.map smallB).toArray⟩
def tagStops : ByteArray := ⟨#[9, 10, 12, 32, 47, 62]⟩
abbrev AttrD := S40
def attrStops : ByteArray := ⟨#[9, 10, 12, 32, 61, 47, 62]⟩
def attrOthers : ByteArray := ⟨#[45, 95]⟩
def valStops : ByteArray := ⟨#[9, 10, 12, 32, 62]⟩
/-- A value in quotes, whose first one stands at j. -/
def quotedK (k : Nat) (s name : ByteArray) (j : Nat) : Option (Int × Nat × AttrD) :=
  let n := uptoN (s.extract j (j + 1)).data.toList (s.extract (j + 1) s.size)
  if j + 1 + n = s.size then some (41, j + 1 + n, ⟨name, ⟨#[]⟩⟩)
  else (x_Decode.f k ((s.extract (j + 1) s.size).extract 0 n) true).bind fun d => some (0, j + 1 + n + 1, ⟨name, d⟩)
/-- A value without quotes. -/
def bareK (k : Nat) (s name : ByteArray) (j : Nat) : Option (Int × Nat × AttrD) :=
  let n := uptoN valStops.data.toList (s.extract j s.size)
  let v := (s.extract j s.size).extract 0 n
  if v.data.toList = [] then some (41, j + n, ⟨name, ⟨#[]⟩⟩)
  else if 0 ≤ Lib.indexAny v.data.toList [34, 39, 60, 61, 96] then some (41, j + n, ⟨name, ⟨#[]⟩⟩)
  else (x_Decode.f k v true).bind fun d => some (0, j + n, ⟨name, d⟩)
def attrK (k : Nat) (s : ByteArray) (i : Nat) : Option (Int × Nat × AttrD) :=
  let n := uptoN attrStops.data.toList (s.extract i s.size)
  let name := smallS ((s.extract i s.size).extract 0 n)
  (token_made.f k name attrOthers).bind fun m =>
    if m = false then some (41, i + n, ⟨name, ⟨#[]⟩⟩)
    else if hasAt s (skipTo s (i + n)) [61] = false then some (0, skipTo s (i + n), ⟨name, ⟨#[]⟩⟩)
    else if hasAt s (skipTo s (skipTo s (i + n) + 1)) [34] = true then quotedK k s name (skipTo s (skipTo s (i + n) + 1))
    else if hasAt s (skipTo s (skipTo s (i + n) + 1)) [39] = true then quotedK k s name (skipTo s (skipTo s (i + n) + 1))
    else bareK k s name (skipTo s (skipTo s (i + n) + 1))
def tagFin (kind : Int) (name : ByteArray) (self : Bool) (ats : List AttrD) (i : Nat) : Option (Int × Nat × TokD) :=
  if kind = 2 ∧ (self = true ∨ 0 < ats.length) then some (40, i, z25) else some (0, i, ⟨kind, name, ats, self, ⟨#[]⟩⟩)
/-- Has one of the attributes that name? -/
def hasName (ats : List AttrD) (n : ByteArray) : Bool := ats.any fun b => n.data.toList == b.f0.data.toList
def tagGo (k : Nat) (s : ByteArray) (kind : Int) (name : ByteArray) : Nat → Nat → List AttrD → Option (Int × Nat × TokD)
  | 0, _, _ => none
  | f + 1, i, ats =>
    if skipTo s i = s.size then some (40, s.size, z25)
    else if hasAt s (skipTo s i) [62] = true then tagFin kind name false ats (skipTo s i + 1)
    else if hasAt s (skipTo s i) [47, 62] = true then tagFin kind name true ats (skipTo s i + 2)
    else if hasAt s (skipTo s i) [47] = true then some (40, skipTo s i, z25)
    else (attrK k s (skipTo s i)).bind fun r =>
      if r.1 ≠ 0 then some (r.1, r.2.1, z25)
      else if hasName ats r.2.2.f0 = true then some (41, r.2.1, z25)
      else if ats.length = 16 then some (3, r.2.1, z25)
      else if r.2.1 ≤ s.size then tagGo k s kind name f r.2.1 (ats ++ [r.2.2]) else none
def tagK (k : Nat) (s : ByteArray) (kind : Int) (i : Nat) : Option (Int × Nat × TokD) :=
  let n := uptoN tagStops.data.toList (s.extract i s.size)
  let name := smallS ((s.extract i s.size).extract 0 n)
  (token_made.f k name ⟨#[]⟩).bind fun m =>
    if m = false then some (40, i + n, z25) else tagGo k s kind name k (i + n) []
def endK (k : Nat) (s : ByteArray) (i : Nat) : Option (Int × Nat × TokD) :=
  if i + 2 = s.size then some (40, i + 2, z25) else if letB (Sv.at' s (i + 2)) = true then tagK k s 2 (i + 2) else some (40, i + 2, z25)
def textK (k : Nat) (s : ByteArray) (i : Nat) : Option (Int × Nat × TokD) := (x_Decode.f k (s.extract i (textEnd s i)) false).bind fun d => some (0, textEnd s i, ⟨3, ⟨#[]⟩, [], false, d⟩)
def commentK (s : ByteArray) (i : Nat) : Option (Int × Nat × TokD) :=
  let R := (s.extract (i + 4) s.size).data.toList
  let c := Lib.cut R [45, 45, 62]
  if c.2.2 = false then some (43, i + 4, z25)
  else if Lib.hasPrefix c.1 [62] = true then some (43, i + 4, z25)
  else if Lib.hasPrefix c.1 [45, 62] = true then some (43, i + 4, z25)
  else if Lib.hasPrefix R [62] = true then some (43, i + 4, z25)
  else if Lib.hasPrefix R [45, 62] = true then some (43, i + 4, z25)
  else if 0 ≤ Lib.index c.1 [45, 45, 33, 62] then some (43, i + 4, z25)
  else if 0 ≤ Lib.index c.1 [60, 33, 45, 45] then some (43, i + 4, z25)
  else if Lib.hasSuffix c.1 [60, 33, 45] = true then some (43, i + 4, z25)
  else some (0, i + 4 + (c.1.length + 3), ⟨4, ⟨#[]⟩, [], false, ⟨c.1.toArray⟩⟩)
def markK (s : ByteArray) (i : Nat) : Option (Int × Nat × TokD) :=
  let R := s.extract i s.size
  if R.size < 9 then some (43, i, z25)
  else if (smallS (R.extract 0 9)).data.toList ≠ [60, 33, 100, 111, 99, 116, 121, 112, 101] then some (43, i, z25)
  else
    let n := uptoN [62] (s.extract (i + 9) s.size)
    if i + 9 + n = s.size then some (43, i + 9 + n, z25)
    else some (0, i + 9 + n + 1, ⟨5, ⟨#[]⟩, [], false, ⟨(Lib.trimS ((s.extract (i + 9) s.size).extract 0 n).data.toList [9, 10, 12, 32]).toArray⟩⟩)
def stepK (k : Nat) (s : ByteArray) (i : Nat) : Option (Int × Nat × TokD) :=
  if nextN (s.extract i s.size) = 0 then textK k s i else if nextN (s.extract i s.size) = 1 then tagK k s 1 (i + 1) else if nextN (s.extract i s.size) = 2 then endK k s i else if nextN (s.extract i s.size) = 3 then commentK s i else markK s i
def tokGo (k : Nat) (s : ByteArray) : Nat → Nat → List TokD → Option (List TokD × Int × Int)
  | 0, _, _ => none
  | f + 1, i, acc =>
    if i < s.size then (if acc.length < 65536 then (stepK k s i).bind fun r => if r.1 = 0 then (if r.2.1 ≤ s.size then tokGo k s f r.2.1 (acc ++ [r.2.2]) else none) else some ([], r.1, i) else none)
    else if i = s.size then some (acc, 0, 0) else none
def tokensK (k : Nat) (s : ByteArray) : Option (List TokD × Int × Int) :=
  if 65536 < s.size then some ([], 3, 0) else if 0 ≤ Lib.indexByte s.data.toList 0 then some ([], 42, Lib.indexByte s.data.toList 0) else tokGo k s k 0 []
end Go.Proofs.YtpfhgolamlnhiaaGreatDoor
