/- utf.parts, utf.mended: text without what is ill-formed. -/
import Derived.Test.YtpfhgolamlnhiaaGreatDoorXQ
import Derived.Test.YtpfhgolamlnhiaaGreatDoorChar
import Derived.Deep.CutBlock
import Derived.Deep.CutRange
import Derived.Test.YtpfhgolamlnhiaaGreatDoorExt1
set_option linter.unusedVariables false
set_option linter.unusedSimpArgs false
namespace Go.Proofs.YtpfhgolamlnhiaaGreatDoor
open Go.RowKit Go.Proofs.YtpfhgolamlnhiaaGreatDoorW.PrintWords Go.Proofs.YtpfhgolamlnhiaaGreatDoor.XQ

def nd (b : Nat) : Int × Int × Int × Bool := (utf_needs.f 5 b).getD (0, 0, 0, false)
def ndOk (b : Nat) : Bool := (utf_needs.f 5 b == some (nd b)) && decide (0 ≤ (nd b).1) && decide ((nd b).1 ≤ 3) && decide (0 ≤ (nd b).2.1) && decide ((nd b).2.1 ≤ 255) && decide (0 ≤ (nd b).2.2.1) && decide ((nd b).2.2.1 ≤ 255)
theorem nd_all : (List.range 256).all ndOk = true := by decide +kernel
theorem nd_some (b : Nat) (h : b < 256) : utf_needs.f 5 (b : Int) = some (nd b) ∧ 0 ≤ (nd b).1 ∧ (nd b).1 ≤ 3 ∧ 0 ≤ (nd b).2.1 ∧ (nd b).2.1 ≤ 255 ∧ 0 ≤ (nd b).2.2.1 ∧ (nd b).2.2.1 ≤ 255 := by
  have := List.all_eq_true.1 nd_all b (List.mem_range.2 h)
  unfold ndOk at this
  simp only [Bool.and_eq_true, decide_eq_true_eq, beq_iff_eq] at this
  obtain ⟨⟨⟨⟨⟨⟨h1, h2⟩, h3⟩, h4⟩, h5⟩, h6⟩, h7⟩ := this
  exact ⟨h1, h2, h3, h4, h5, h6, h7⟩
def partLoop (s : ByteArray) (n : Int) : Nat → Nat → Int → Int → Nat × Bool
  | 0, k, _, _ => (k, false)
  | f + 1, k, lo, hi => if (k : Int) ≤ n then (if k = s.size ∨ (Sv.at' s k : Int) < lo ∨ hi < (Sv.at' s k : Int) then (k, false) else partLoop s n f (k + 1) 128 191) else (k, true)
def part (s : ByteArray) : Nat × Bool := if (nd (Sv.at' s 0)).2.2.2 = true then partLoop s (nd (Sv.at' s 0)).1 6 1 (nd (Sv.at' s 0)).2.1 (nd (Sv.at' s 0)).2.2.1 else (1, false)
theorem partLoop_le (s : ByteArray) (n : Int) : ∀ (f k : Nat) (lo hi : Int), k ≤ s.size → k ≤ (partLoop s n f k lo hi).1 ∧ (partLoop s n f k lo hi).1 ≤ s.size
  | 0, k, lo, hi, h => ⟨Nat.le_refl _, h⟩
  | f + 1, k, lo, hi, h => by
    unfold partLoop
    split
    · split
      · exact ⟨Nat.le_refl _, h⟩
      · rename_i h2
        have := partLoop_le s n f (k + 1) 128 191 (by omega)
        omega
    · exact ⟨Nat.le_refl _, h⟩
theorem part_le (s : ByteArray) (h : 0 < s.size) : 1 ≤ (part s).1 ∧ (part s).1 ≤ s.size := by
  unfold part
  split
  · exact partLoop_le s _ 6 1 _ _ (by omega)
  · exact ⟨by omega, by omega⟩
def mendGo : Nat → ByteArray → List UInt8 → Option (List UInt8)
  | 0, _, _ => none
  | f + 1, s, acc => if s.size = 0 then some acc else (wr acc (if (part s).2 = true then (s.extract 0 (part s).1).data.toList else [239, 191, 189])).bind fun acc2 => mendGo f (s.extract (part s).1 s.size) acc2

theorem each_calls (B b : Nat) (p : ByteArray) (ok : Bool) (acc r : List UInt8) (w : World) (h : Bl B b acc w) (hB : B ≤ w.heap.size) (hw : wr acc (if ok = true then p.data.toList else [239, 191, 189]) = some r) :
    Calls Tryz.prog 99 #[.string p, .bool ok, .pointer (some ⟨b, 0, none⟩)] w fun e w' => e = .returned (.tuple #[]) ∧ Bl B b r w' ∧ Below B w w' := by
  cases ok
  · have HW := Lib.hid hw
    clear hw
    go_enter Tryz.func99, Tryz.ntmps99
    go_wp2_with (go_at_call 60; refine (write_any B b acc ⟨#[239, 191, 189]⟩ r _ h hB HW.out).mono ?_; rintro e w2 ⟨rfl, hB2, hb2, -⟩)
    go_end0
    exact ⟨rfl, hB2, hb2⟩
  · have HW := Lib.hid hw
    clear hw
    go_enter Tryz.func99, Tryz.ntmps99
    go_wp2_with (go_at_call 60; refine (write_any B b acc p r _ h hB HW.out).mono ?_; rintro e w2 ⟨rfl, hB2, hb2, -⟩)
    go_end0
    exact ⟨rfl, hB2, hb2⟩

set_option maxHeartbeats 4000000 in
set_option maxRecDepth 100000 in
theorem parts_calls (B b k : Nat) (s : ByteArray) (acc r : List UInt8) (w : World) (h : mendGo k s acc = some r) (hs : s.size ≤ 4611686018427387904) (hI : Bl B b acc w) (hB : B ≤ w.heap.size) :
    Calls Tryz.prog 98 #[.string s, .func (.func 99) #[] #[.pointer (some ⟨b, 0, none⟩)]] w fun e w' => e = .returned (.tuple #[]) ∧ Bl B b r w' ∧ Below B w w' := by
  have HH := Lib.hid h
  clear h
  go_enter Tryz.func98, Tryz.ntmps98
  go_wp2_with fail
  go_loopg [0] k (fun kq v0 wr_ => ∃ (s' : ByteArray) (acc : List UInt8), v0 = .string s' ∧ s'.size ≤ 4611686018427387904 ∧ Hid (mendGo kq s' acc = some r) ∧ Hid (Bl B b acc wr_) ∧ Hid (Below B w wr_))
  case atStart => exact ⟨s, acc, rfl, hs, HH, Lib.hid hI, Lib.hid (Below.refl _ _)⟩
  case round =>
    obtain ⟨s', acc, rfl, hs', hd, hB', hb⟩ := hrel
    cases gk with
    | zero => have := hd.out; simp [mendGo] at this
    | succ k3 =>
      have hsz := hb.out.size
      have hg := hd.out
      rw [mendGo] at hg
      clear hd
      by_cases h0 : s'.size = 0
      · rw [if_pos h0] at hg
        obtain rfl := Option.some.inj hg
        obtain rfl : s' = ⟨#[]⟩ := ByteArray.ext (Array.size_eq_zero_iff.1 h0)
        go_wp2_with fail
        go_end0
        exact ⟨rfl, hB'.out, hb.out⟩
      · rw [if_neg h0] at hg
        have HGO := Lib.hid hg
        clear hg
        have hne := ne_list s' h0
        have hnl : s'.toList.isEmpty = false := by
          cases e : s'.toList
          · exact absurd e hne
          · rfl
        have hpos : 0 < s'.size := by omega
        have hat := at_get s' 0 hpos
        obtain ⟨hn, n0, n3, lo0, lo1, hi0, hi1⟩ := nd_some s'[0].toNat (by have := s'[0].toNat_lt; omega)
        have HP : Hid (part s' = if (nd s'[0].toNat).2.2.2 = true then partLoop s' (nd s'[0].toNat).1 6 1 (nd s'[0].toNat).2.1 (nd s'[0].toNat).2.2.1 else (1, false)) := by
          show part s' = _
          unfold part
          rw [hat]
        have hple := part_le s' hpos
        generalize nd s'[0].toNat = d at *
        obtain ⟨dn, dl, dh, dok⟩ := d
        dsimp only at n0 n3 lo0 lo1 hi0 hi1
        generalize part s' = P at *
        clear hat
        go_upto_block 2 with (go_at_call 122; refine (utf_needs.calls 5 _ dn dl dh dok _ hn).mono ?_; rintro e w1 ⟨rfl, hd1⟩)
        go_cut [7, 8] from 19 to 44 (fun v7 v8 wd => v7 = .bool P.2 ∧ v8 = .int .i64 P.1 ∧ wd = w1)
        case first =>
          go_wp2_with fail
          go_loopw [5, 6, 7, 8] (fun v5 v6 v7 v8 wz => ∃ (k f : Nat) (lo hi : Int) (ok : Bool), v5 = .int .u8 lo ∧ v6 = .int .u8 hi ∧ v7 = .bool ok ∧ v8 = .int .i64 k ∧ 1 ≤ k ∧ k ≤ s'.size ∧ k ≤ 4 ∧ 0 ≤ lo ∧ lo ≤ 255 ∧ 0 ≤ hi ∧ hi ≤ 255 ∧ 4 - k + 1 < f ∧ Hid (P = if ok = true then partLoop s' dn f k lo hi else (k, false)) ∧ wz = w1) (fun v5 v6 v7 v8 wz => 5 - (intOf v8).toNat)
          case atStart => exact ⟨1, 6, dl, dh, dok, rfl, rfl, rfl, rfl, by omega, by omega, by omega, lo0, lo1, hi0, hi1, by omega, HP, rfl⟩
          case round =>
            obtain ⟨k, f, lo, hi, ok, rfl, rfl, rfl, rfl, k1, ks, k4, l0, l1, i0, i1, hf, hP, rfl⟩ := hrel
            cases ok
            · have hp := hP.out
              rw [if_neg (by decide)] at hp
              have HR := Lib.hid hp
              clear hp hP
              go_wp2_with fail
              go_meet
              case rel => exact ⟨by rw [HR.out], by rw [HR.out], rfl⟩
            · obtain ⟨f, rfl⟩ : ∃ m, f = m + 1 := ⟨f - 1, by omega⟩
              have hp := hP.out
              rw [if_pos rfl, partLoop] at hp
              clear hP
              by_cases hkn : (k : Int) ≤ dn
              · rw [if_pos hkn] at hp
                by_cases hks : k = s'.size
                · rw [if_pos (.inl hks)] at hp
                  have HR := Lib.hid hp
                  clear hp
                  have hks' : ((k : Int) == (s'.size : Int)) = true := by rw [beq_iff_eq]; omega
                  go_wp2_with fail
                  go_meet
                  case rel => exact ⟨by rw [HR.out], by rw [HR.out], rfl⟩
                · have hlt : k < s'.size := by omega
                  have ha := at_get s' k hlt
                  rw [ha] at hp
                  have HR := Lib.hid hp
                  have hks' : ((k : Int) == (s'.size : Int)) = false := by rw [beq_eq_false_iff_ne]; omega
                  clear hp ha
                  go_wp2_with fail
                  · rename_i hc
                    go_meet
                    case rel =>
                      have hr := HR.out
                      rw [if_pos (.inr (by first | exact hc | (simp at hc; omega)))] at hr
                      exact ⟨by rw [hr], by rw [hr], rfl⟩
                  · rename_i hc
                    have hr := HR.out
                    rw [if_neg (by first | (simp at hc; omega) | omega)] at hr
                    exact ⟨⟨k + 1, f, 128, 191, true, rfl, rfl, rfl, by go_num, by omega, by omega, by omega, by omega, by omega, by omega, by omega, by omega, Lib.hid hr, trivial⟩, by simp [intOf]; omega⟩
                  · rename_i hc
                    go_meet
                    case rel =>
                      have hr := HR.out
                      rw [if_pos (.inr (.inl hc))] at hr
                      exact ⟨by rw [hr], by rw [hr], rfl⟩
              · rw [if_neg hkn] at hp
                have HR := Lib.hid hp
                clear hp
                go_wp2_with fail
                go_meet
                case rel => exact ⟨by rw [HR.out], by rw [HR.out], rfl⟩
        case rest =>
          obtain ⟨rfl, rfl, rfl⟩ := hcut
          obtain ⟨acc2, h1, h2⟩ := Option.bind_eq_some_iff.1 HGO.out
          have H1 := Lib.hid h1
          have H2 := Lib.hid h2
          clear h1 h2 HGO HP
          obtain ⟨pk, pok⟩ := P
          dsimp only at H1 H2 hple
          have hle1 : (0 : Int) ≤ (pk : Int) := by omega
          have hBl := hB'.out.below hd1.below
          go_wp2_with (go_at_call 99; refine (each_calls B b (s'.extract 0 pk) pok acc acc2 _ hBl (by have := hd1.below.size; omega) H1.out).mono ?_; rintro e w2 ⟨rfl, hB2, hb2⟩)
          have hb2' := (below_then (hb.out) (Nat.le_trans hB hsz) hd1.below).trans hb2
          go_roundg k3
          case measure => omega
          case rel => exact ⟨_, acc2, rfl, by rw [ByteArray.size_extract]; omega, H2, Lib.hid hB2, Lib.hid hb2'⟩
end Go.Proofs.YtpfhgolamlnhiaaGreatDoor

set_option linter.unusedVariables false
set_option linter.unusedSimpArgs false
namespace Go.Proofs.YtpfhgolamlnhiaaGreatDoor
open Go.RowKit Go.Proofs.YtpfhgolamlnhiaaGreatDoorW.PrintWords
theorem mended_calls (k : Nat) (s : ByteArray) (r : List UInt8) (w : World) (h : mendGo k s [] = some r) (hs : s.size ≤ 4611686018427387904) :
    Calls Tryz.prog 83 #[.string s] w fun e w' => e = .returned (.string ⟨r.toArray⟩) ∧ Below w.heap.size w w' := by
  have hI : Bl w.heap.size w.heap.size [] (w.alloc (.cells #[.pointer none, .slice none 0 0] 83)) := Lib.IsBuilderF.of (Lib.fresh_isBuilder _ _ w)
  have hsz : w.heap.size ≤ (w.alloc (.cells #[.pointer none, .slice none 0 0] 83)).heap.size := by simp
  go_enter Tryz.func83, Tryz.ntmps83
  go_wp2_with (first | (go_at_call 98; refine (parts_calls w.heap.size w.heap.size k s [] r _ h hs hI hsz).mono ?_; rintro e w2 ⟨rfl, hB2, hb2⟩) | (go_at_call 61; refine (Tryz.Builder_String_any_k _ _ r _ hB2 (by have := hb2.size; omega)).mono ?_; rintro e w3 ⟨rfl, -, hb3, -⟩))
  go_ret
  exact ⟨rfl, ((below_alloc (Below.refl _ w) _).trans hb2).trans hb3⟩
end Go.Proofs.YtpfhgolamlnhiaaGreatDoor

set_option linter.unusedVariables false
set_option linter.unusedSimpArgs false
namespace Go.Proofs.YtpfhgolamlnhiaaGreatDoor
open Go.RowKit Go.Proofs.YtpfhgolamlnhiaaGreatDoorW.PrintWords

def crGo (s : ByteArray) : Nat → Nat → Int → List UInt8 → Option (List UInt8)
  | 0, _, _, _ => none
  | f + 1, pos, st, acc =>
    if pos < s.size then
      (if ((Utf8.decode s pos).1 : Int) = 10 ∧ st = 13 then crGo s f (pos + (Utf8.decode s pos).2) (Utf8.decode s pos).1 acc
       else if ((Utf8.decode s pos).1 : Int) = 13 then (wr acc [10]).bind fun a => crGo s f (pos + (Utf8.decode s pos).2) (Utf8.decode s pos).1 a
       else (wr acc (Lib.encodeRune (Utf8.decode s pos).1)).bind fun a => crGo s f (pos + (Utf8.decode s pos).2) (Utf8.decode s pos).1 a)
    else some acc
theorem rune_it (B b : Nat) (acc r : List UInt8) (c : Int) (w : World) (h : Bl B b acc w) (hB : B ≤ w.heap.size) (h0 : -2147483648 ≤ c) (h1 : c ≤ 2147483647) (hw : wr acc (Lib.encodeRune c) = some r) :
    Calls Tryz.prog 85 #[.pointer (some ⟨b, 0, none⟩), .int .i32 c] w fun e w' => e = .returned (.tuple #[.int .i64 (Lib.runeCells c).length, .nilIface]) ∧ Bl B b r w' ∧ Below B w w' ∧ Lib.OthersKept 5 (some b) w w' := by
  obtain ⟨rfl, hl⟩ := wr_len hw
  refine (Bld.WriteRune B b _ c h0 h1 w h (by rw [Lib.byteCells_length]; omega) hB).mono ?_
  rintro e w' ⟨rfl, h1, h2, h3⟩
  refine ⟨rfl, ?_, h2, h3⟩
  have e : Lib.byteCells (acc ++ Lib.encodeRune c) = Lib.byteCells acc ++ Lib.runeCells c := by rw [Lib.byteCells_append, Lib.byteCells_encodeRune]
  unfold Bl
  rw [e]
  exact .inr h1
theorem byte_it (B b : Nat) (acc r : List UInt8) (w : World) (h : Bl B b acc w) (hB : B ≤ w.heap.size) (hw : wr acc [10] = some r) :
    Calls Tryz.prog 84 #[.pointer (some ⟨b, 0, none⟩), .int .u8 10] w fun e w' => e = .returned .nilIface ∧ Bl B b r w' ∧ Below B w w' ∧ Lib.OthersKept 5 (some b) w w' := by
  obtain ⟨rfl, hl⟩ := wr_len hw
  refine (Bld.WriteByte B b _ 10 w h (by rw [Lib.byteCells_length]; omega) hB).mono ?_
  rintro e w' ⟨rfl, h1, h2, h3⟩
  refine ⟨rfl, ?_, h2, h3⟩
  have e : Lib.byteCells (acc ++ [10]) = Lib.byteCells acc ++ [.int .u8 10] := by rw [Lib.byteCells_append]; rfl
  unfold Bl
  rw [e]
  exact .inr h1

set_option maxHeartbeats 8000000 in
set_option maxRecDepth 100000 in
theorem utfDecode_calls (k : Nat) (A0 : Option Addr) (c0 : Nat) (l0 : List Int) (m out : List UInt8) (w : World) (hr : Kd.C (Kd.int .u8) w A0 l0.length l0) (hc : l0.length ≤ c0) (hl : l0.length ≤ 65536) (hm : mendGo k (strOfNums l0) [] = some m) (ho : crGo ⟨m.toArray⟩ k 0 32 [] = some out) :
    Calls Tryz.prog 48 #[.slice A0 l0.length c0] w fun e w' => e = .returned (.tuple #[.string ⟨out.toArray⟩, .int .i64 0]) ∧ Below w.heap.size w w' := by
  have hI : Bl w.heap.size w.heap.size [] (w.alloc (.cells #[.pointer none, .slice none 0 0] 83)) := Lib.IsBuilderF.of (Lib.fresh_isBuilder _ _ w)
  have hcv := Kd.C_string (P := Tryz.prog) (c := c0) Tryz.underlying44 Tryz.underlying5 Tryz.underlying9 (Kd.C_below hr (below_alloc (Below.refl _ w) (.cells #[.pointer none, .slice none 0 0] 83)))
  have hss : (strOfNums l0).size ≤ 4611686018427387904 := by unfold strOfNums; simp [ByteArray.size]; omega
  have HM := Lib.hid hm
  have HO := Lib.hid ho
  clear hm ho hr
  go_enter Tryz.func48, Tryz.ntmps48
  go_wp2_with (go_at_call 83; refine (mended_calls k (strOfNums l0) m _ HM.out hss).mono ?_; rintro e w2 ⟨rfl, hb2⟩)
  have hB2 := hI.below hb2
  have hbw : Below w.heap.size w w2 := below_then (below_alloc (Below.refl _ w) _) (by simp) hb2
  have hlt2 : w.heap.size < w2.heap.size := by have := hb2.size; simp at this; omega
  generalize (⟨m.toArray⟩ : ByteArray) = S at *
  clear hI hb2 hcv HM
  go_loopg [5] k (fun kq v5 wr_ => ∃ (pos : Nat) (st : Int) (acc : List UInt8), v5 = .int .i32 st ∧ -2147483648 ≤ st ∧ st ≤ 2147483647 ∧ Hid (Bl w.heap.size w.heap.size acc wr_) ∧ Hid (wr_.heap[w2.heap.size]? = some (.stringIter S pos)) ∧ Hid (Below w.heap.size w wr_) ∧ Hid (crGo S kq pos st acc = some out))
  case atStart =>
    refine ⟨0, 32, [], rfl, by omega, by omega, Lib.hid (hB2.below (below_alloc (Below.refl _ _) _)), Lib.hid ?_, Lib.hid (below_alloc hbw _), HO⟩
    have := World.iter_heap w2 S 0
    simpa using this
  case round =>
    obtain ⟨pos, st, acc, rfl, st0, st1, hBl, hit0, hb0, hd⟩ := hrel
    have hit := hit0.out
    cases gk with
    | zero => have := hd.out; simp [crGo] at this
    | succ k3 =>
      have hsz : w2.heap.size < wr.heap.size := (Array.getElem?_eq_some_iff.1 hit).1
      have hg := hd.out
      rw [crGo] at hg
      clear hd
      by_cases hp : pos < S.size
      · rw [if_pos hp] at hg
        have hnx : ∀ ty, (Instr.next (.pointer (some ⟨w2.heap.size, 0, none⟩)) true ty).run Tryz.prog wr = _ := fun ty => Lib.run_next_any_at wr w2.heap.size S pos ty hit hp
        have hd1 := decode_le S pos
        have hI3 : Bl w.heap.size w.heap.size acc (wr.iterAt w2.heap.size S (pos + (Utf8.decode S pos).2)) := Lib.IsBuilderF.iterAt hBl.out hit (pos + (Utf8.decode S pos).2)
        have hit2 := Lib.iterAt_heap wr w2.heap.size S pos (pos + (Utf8.decode S pos).2) hit
        have hbw2 := Lib.below_iterAt hb0.out (k := w2.heap.size) (by omega) S (pos + (Utf8.decode S pos).2)
        have hsz2 : w.heap.size ≤ (wr.iterAt w2.heap.size S (pos + (Utf8.decode S pos).2)).heap.size := by rw [Lib.iterAt_size]; omega
        generalize (Utf8.decode S pos).2 = wd at *
        generalize (Utf8.decode S pos).1 = rn at *
        by_cases c1 : (rn : Int) = 10 ∧ st = 13
        · rw [if_pos c1] at hg
          have HR := Lib.hid hg
          obtain ⟨c10, rfl⟩ := c1
          have c1b : ((rn : Int) == 10) = true := by rw [beq_iff_eq]; exact c10
          have HR' : crGo S k3 (pos + wd) 10 acc = some out := by have := HR.out; rw [c10] at this; exact this
          clear hg
          go_wp2_with fail
          go_roundg k3
          case measure => omega
          case rel => exact ⟨pos + wd, 10, acc, rfl, by omega, by omega, Lib.hid hI3, Lib.hid hit2, Lib.hid hbw2, Lib.hid HR'⟩
        · rw [if_neg c1] at hg
          by_cases c2 : (rn : Int) = 13
          · rw [if_pos c2] at hg
            obtain ⟨a, ha, hg⟩ := Option.bind_eq_some_iff.1 hg
            have HA := Lib.hid ha
            have HR' : Hid (crGo S k3 (pos + wd) 13 a = some out) := by rw [c2] at hg; exact hg
            have h10 : ((rn : Int) == 10) = false := by rw [beq_eq_false_iff_ne]; omega
            have h13 : ((rn : Int) == 13) = true := by rw [beq_iff_eq]; exact c2
            clear ha hg c1
            go_wp2_with (go_at_call 84; refine (byte_it _ _ acc a _ hI3 hsz2 HA.out).mono ?_; rintro e w4 ⟨rfl, hB4, hb4, hk4⟩)
            go_roundg k3
            case measure => omega
            case rel => exact ⟨pos + wd, 13, a, rfl, by omega, by omega, Lib.hid hB4, Lib.hid (hk4.iter hit2 (by omega)), Lib.hid (hbw2.trans hb4), HR'⟩
          · rw [if_neg c2] at hg
            obtain ⟨a, ha, hg⟩ := Option.bind_eq_some_iff.1 hg
            have HA := Lib.hid ha
            have HR := Lib.hid hg
            have h13 : ((rn : Int) == 13) = false := by rw [beq_eq_false_iff_ne]; exact c2
            clear ha hg c2
            by_cases e10 : (rn : Int) = 10
            · have h10 : ((rn : Int) == 10) = true := by rw [beq_iff_eq]; exact e10
              have hst : (st == 13) = false := by rw [beq_eq_false_iff_ne]; exact fun e => c1 ⟨e10, e⟩
              clear c1 e10
              go_wp2_with (go_at_call 85; refine (rune_it _ _ acc a _ _ hI3 hsz2 (by omega) (by omega) HA.out).mono ?_; rintro e w4 ⟨rfl, hB4, hb4, hk4⟩)
              go_roundg k3
              case measure => omega
              case rel => exact ⟨pos + wd, rn, a, rfl, by omega, by omega, Lib.hid hB4, Lib.hid (hk4.iter hit2 (by omega)), Lib.hid (hbw2.trans hb4), HR⟩
            · have h10 : ((rn : Int) == 10) = false := by rw [beq_eq_false_iff_ne]; exact e10
              clear c1 e10
              go_wp2_with (go_at_call 85; refine (rune_it _ _ acc a _ _ hI3 hsz2 (by omega) (by omega) HA.out).mono ?_; rintro e w4 ⟨rfl, hB4, hb4, hk4⟩)
              go_roundg k3
              case measure => omega
              case rel => exact ⟨pos + wd, rn, a, rfl, by omega, by omega, Lib.hid hB4, Lib.hid (hk4.iter hit2 (by omega)), Lib.hid (hbw2.trans hb4), HR⟩
      · rw [if_neg hp] at hg
        obtain rfl := Option.some.inj hg
        have hnx : ∀ ty, (Instr.next (.pointer (some ⟨w2.heap.size, 0, none⟩)) true ty).run Tryz.prog wr = _ := fun ty => Lib.run_next_end_at wr w2.heap.size S pos ty hit hp
        go_wp2_with (go_at_call 61; refine (Tryz.Builder_String_any_k _ _ acc _ hBl.out (by omega)).mono ?_; rintro e w4 ⟨rfl, -, hb4, -⟩)
        go_ret2
        exact ⟨rfl, hb0.out.trans hb4⟩
end Go.Proofs.YtpfhgolamlnhiaaGreatDoor

set_option linter.unusedVariables false
set_option linter.unusedSimpArgs false
namespace Go.Proofs.YtpfhgolamlnhiaaGreatDoor
open Go.RowKit Go.Proofs.YtpfhgolamlnhiaaGreatDoorW.PrintWords
theorem mendGo_mono : ∀ (k : Nat) (s : ByteArray) (acc : List UInt8), LeO (mendGo k s acc) (mendGo (k + 1) s acc)
  | 0, s, acc => LeO.none _
  | k + 1, s, acc => by
    rw [mendGo, mendGo]
    exact LeO.ite (LeO.refl _) (LeO.bind (LeO.refl _) (fun a => mendGo_mono k _ _))
theorem crGo_mono (s : ByteArray) : ∀ (k pos : Nat) (st : Int) (acc : List UInt8), LeO (crGo s k pos st acc) (crGo s (k + 1) pos st acc)
  | 0, pos, st, acc => LeO.none _
  | k + 1, pos, st, acc => by
    rw [crGo, crGo]
    exact LeO.ite (LeO.ite (crGo_mono s k _ _ _) (LeO.ite (LeO.bind (LeO.refl _) (fun a => crGo_mono s k _ _ _)) (LeO.bind (LeO.refl _) (fun a => crGo_mono s k _ _ _)))) (LeO.refl _)
def x_utfDecode.f (k : Nat) (l : List Int) : Option (ByteArray × Int) :=
  if l.length ≤ 65536 then (mendGo k (strOfNums l) []).bind fun m => (crGo ⟨m.toArray⟩ k 0 32 []).bind fun o => some (⟨o.toArray⟩, 0) else some (⟨#[]⟩, 3)
theorem x_utfDecode.mono : ∀ (l : List Int) (k : Nat), LeO (x_utfDecode.f k l) (x_utfDecode.f (k + 1) l) := fun l k =>
  LeO.ite (LeO.bind (mendGo_mono k _ _) (fun m => LeO.bind (crGo_mono _ k _ _ _) (fun _ => LeO.refl _))) (LeO.refl _)
set_option maxRecDepth 100000 in
theorem x_utfDecode.calls (k : Nat) (A0 : Option Addr) (c0 : Nat) (l0 : List Int) (r1 : ByteArray) (r2 : Int) (w : World) (hr0 : Kd.C (Kd.int .u8) w A0 l0.length l0) (hc0 : l0.length ≤ c0) (h : x_utfDecode.f k l0 = some (r1, r2)) :
    Calls Tryz.prog 48 #[.slice A0 l0.length c0] w fun e w' => e = .returned (.tuple #[.string r1, .int .i64 r2]) ∧ Below w.heap.size w w' := by
  unfold x_utfDecode.f at h
  split at h
  · rename_i hl
    obtain ⟨m, hm, h⟩ := Option.bind_eq_some_iff.1 h
    obtain ⟨o, ho, h⟩ := Option.bind_eq_some_iff.1 h
    simp only [Option.some.injEq, Prod.mk.injEq] at h
    obtain ⟨rfl, rfl⟩ := h
    exact utfDecode_calls k A0 c0 l0 m o w hr0 hc0 hl hm ho
  · rename_i hl
    simp only [Option.some.injEq, Prod.mk.injEq] at h
    obtain ⟨rfl, rfl⟩ := h
    clear hr0
    have hb : decide (65536 < (l0.length : Int)) = true := by simp; omega
    go_enter Tryz.func48, Tryz.ntmps48
    go_wp2_with fail
    all_goals first | (exfalso; omega) | (go_ret2; exact ⟨rfl, Below.refl _ _⟩)
end Go.Proofs.YtpfhgolamlnhiaaGreatDoor
