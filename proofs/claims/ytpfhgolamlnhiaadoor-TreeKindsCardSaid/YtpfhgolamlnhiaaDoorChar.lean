/-
  DERIVED: THE SHELF's CONTRACTS AT THIS DUMP, IN PLAIN WORDS (tools/lay-plain.mjs out of 'TrydShelf.lean', which tools/lay-shelf.mjs wrote): THE SAME DECLARATIONS UNDER THE SAME NAMES: 'import', 'namespace', 'open', 'def', 'theorem' AND NOTHING ELSE: no command of the shelf's: FOR A HAND-IN. Each laying: the table of numbers ('.._ren') and one theorem, a field a fact of the dump's own or the kernel's comparison; each contract: ONE APPLICATION.
-/
import Derived.Shelf.Strings.Builder1
import Derived.Shelf.Strings.Trim
import Derived.Shelf.Small.Utf8
import Derived.Shelf.Small.Strs
import Derived.Shelf.Small.Wraps
import Derived.Shelf.Strings.BuilderF
import Derived.Shelf.Strings.BuilderK
import Derived.Shelf.Strings.BuilderRune
import Derived.Shelf.Utf8.AppendRune
import Derived.Shelf.Strings.Search1
import Derived.Shelf.Strings.Search2
import Derived.Shelf.Strings.Search3
import Derived.Shelf.Strings.Cut
import Derived.Shelf.LaysM
import Derived.Shelf.Strings.Shaped
import Derived.Shelf.Strings.Prefix
import Derived.Shelf.Strings.Runes
import Derived.Shelf.Strings.IndexAny
import Derived.Shelf.Strings.AsciiSet
import Derived.Shelf.Strings.IndexAnyAll
import Derived.Shelf.Unicode.DecodeSlow
import Derived.Shelf.Unicode.DecodeAny
import Derived.Shelf.Slices.Turned
import Derived.Shelf.Unicode.ValidAny
import Derived.Shelf.Strings.SlTrimAscii
import Derived.Test.YtpfhgolamlnhiaaDoorProg
import Derived.Test.YtpfhgolamlnhiaaDoorShelf
import Derived.Below
import Derived.RowKit
import Derived.Test.YtpfhgolamlnhiaaDoorXT
import Derived.Test.YtpfhgolamlnhiaaDoorWWords
import Derived.Lib.Hide
import Derived.BigCall
import Derived.WalkKit
import Derived.Laws.EntriesVeiled
import Derived.Test.YtpfhgolamlnhiaaDoorEsc
import Derived.OwnWalk
import Derived.Lib.RabinKarpLaws
import Derived.Deep.DeepCutAuto
import Derived.Deep.CutBlock
import Derived.Test.YtpfhgolamlnhiaaDoorBuilder
import Derived.Test.YtpfhgolamlnhiaaDoorPut
import Derived.Deep.LoopGhost
namespace Go.Proofs
open Go.Shelf
def Tryd.lays106_ren : Go.Shelf.Ren := ⟨fun | 106 => 49 | 213 => 63 | 265 => 86 | n => n, fun | 9 => 9 | 3 => 3 | n => n, fun | n => n⟩
theorem Tryd.lays106 : Go.Proofs.Lays.n106 Tryd.prog Tryd.lays106_ren := {
  mixed := by kernel_rfl
  f106 := Tryd.func49.trans (congrArg some (by kernel_rfl))
  f213 := Tryd.func63.trans (congrArg some (by kernel_rfl))
  f265 := Tryd.func86.trans (congrArg some (by kernel_rfl))
  t3 := Tryd.underlying3
  a3 := Tryd.isAgg3
  z3 := Tryd.sizeOf3
  v3 := Tryd.zeroValue3
  t9 := Tryd.underlying9
  a9 := Tryd.isAgg9
  z9 := Tryd.sizeOf9
  v9 := Tryd.zeroValue9 }
open Go.RowKit in
theorem Tryd.strings_Compare (a b : ByteArray) (w : World) :
    Calls Tryd.prog 49 #[.string a, .string b] w fun e w' => e = .returned (.int .i64 (Lib.compareBytes a.data.toList b.data.toList)) ∧ w' = w := Any.strings_Compare Tryd.lays106 a b w
end Go.Proofs

namespace Go.Proofs
open Go.Shelf
def Tryd.lays119_ren : Go.Shelf.Ren := ⟨fun | 119 => 62 | n => n, fun | 21 => 21 | 4 => 4 | n => n, fun | n => n⟩
theorem Tryd.lays119 : Go.Proofs.Lays.n119 Tryd.prog Tryd.lays119_ren := {
  mixed := by kernel_rfl
  f119 := Tryd.func62.trans (congrArg some (by kernel_rfl))
  t4 := Tryd.underlying4
  a4 := Tryd.isAgg4
  z4 := Tryd.sizeOf4
  v4 := Tryd.zeroValue4
  t21 := Tryd.underlying21
  a21 := Tryd.isAgg21
  z21 := Tryd.sizeOf21
  v21 := Tryd.zeroValue21 }
theorem Tryd.utf8_ValidRune (r : Int) (w : World) :
    Calls Tryd.prog 62 #[.int .i32 r] w fun e w' => e = .returned (.bool (Lib.validRune r)) ∧ w' = w := Any.utf8_ValidRune Tryd.lays119 r w
def Tryd.lays103_ren : Go.Shelf.Ren := ⟨fun | 103 => 61 | 210 => 85 | 206 => 59 | n => n, fun | 9 => 9 | 4 => 4 | 24 => 102 | 3 => 3 | n => n, fun | n => n⟩
theorem Tryd.lays103 : Go.Proofs.Lays.n103 Tryd.prog Tryd.lays103_ren := {
  mixed := by kernel_rfl
  f103 := Tryd.func61.trans (congrArg some (by kernel_rfl))
  f206 := Tryd.func59.trans (congrArg some (by kernel_rfl))
  f210 := Tryd.func85.trans (congrArg some (by kernel_rfl))
  t3 := Tryd.underlying3
  a3 := Tryd.isAgg3
  z3 := Tryd.sizeOf3
  v3 := Tryd.zeroValue3
  t4 := Tryd.underlying4
  a4 := Tryd.isAgg4
  z4 := Tryd.sizeOf4
  v4 := Tryd.zeroValue4
  t9 := Tryd.underlying9
  a9 := Tryd.isAgg9
  z9 := Tryd.sizeOf9
  v9 := Tryd.zeroValue9
  t24 := Tryd.underlying102
  a24 := Tryd.isAgg102
  z24 := Tryd.sizeOf102
  v24 := Tryd.zeroValue102 }
open Go.RowKit in
theorem Tryd.strings_CutPrefix (s p : ByteArray) (w : World) :
    Calls Tryd.prog 61 #[.string s, .string p] w fun e w' => e = .returned (.tuple #[.string ⟨(Lib.trimPrefix s.data.toList p.data.toList).toArray⟩, .bool (Lib.hasPrefix s.data.toList p.data.toList)]) ∧ w' = w := Any.strings_CutPrefix Tryd.lays103 s p w
def Tryd.lays278_ren : Go.Shelf.Ren := ⟨fun | 278 => 64 | n => n, fun | 37 => 28 | 21 => 21 | 51 => 106 | 4 => 4 | 46 => 73 | 5 => 5 | n => n, fun | n => n⟩
theorem Tryd.lays278 : Go.Proofs.Lays.n278 Tryd.prog Tryd.lays278_ren := {
  mixed := by kernel_rfl
  f278 := Tryd.func64.trans (congrArg some (by kernel_rfl))
  t4 := Tryd.underlying4
  a4 := Tryd.isAgg4
  z4 := Tryd.sizeOf4
  v4 := Tryd.zeroValue4
  t5 := Tryd.underlying5
  a5 := Tryd.isAgg5
  z5 := Tryd.sizeOf5
  v5 := Tryd.zeroValue5
  t21 := Tryd.underlying21
  a21 := Tryd.isAgg21
  z21 := Tryd.sizeOf21
  v21 := Tryd.zeroValue21
  t37 := Tryd.underlying28
  a37 := Tryd.isAgg28
  z37 := Tryd.sizeOf28
  v37 := Tryd.zeroValue28
  t46 := Tryd.underlying73
  a46 := Tryd.isAgg73
  z46 := Tryd.sizeOf73
  v46 := Tryd.zeroValue73
  t51 := Tryd.underlying106
  a51 := Tryd.isAgg106
  z51 := Tryd.sizeOf106
  v51 := Tryd.zeroValue106 }
open Go.RowKit in
theorem Tryd.utf8_appendRuneNonASCII_row (B : Nat) (v : Value) (n : Nat) (xs : List Value) (r : Int) (hr0 : -2147483648 ≤ r) (hr1 : r ≤ 2147483647) (hna : r < 0 ∨ 128 ≤ r) (w : World) (hown : w.ownsRowF B 5 1 v n xs) (hlen : n + 4 ≤ 140737488355328) (hBw : B ≤ w.heap.size) :
    Calls Tryd.prog 64 #[v, .int .i32 r] w fun e w' => ∃ v', e = .returned v' ∧ w'.ownsRowF B 5 1 v' (n + (Lib.runeCells r).length) (xs ++ Lib.runeCells r) ∧ ∃ o, (w.alloc o).grownBy w' v.ownBlock := Any.utf8_appendRuneNonASCII_row Tryd.lays278 (by kernel_rfl) B v n xs r hr0 hr1 hna w hown hlen hBw
def Tryd.lays242_ren : Go.Shelf.Ren := ⟨fun | 242 => 50 | 278 => 64 | n => n, fun | 37 => 28 | 21 => 21 | 51 => 106 | 4 => 4 | 5 => 5 | 46 => 73 | n => n, fun | n => n⟩
theorem Tryd.lays242 : Go.Proofs.Lays.n242 Tryd.prog Tryd.lays242_ren := {
  mixed := by kernel_rfl
  f242 := Tryd.func50.trans (congrArg some (by kernel_rfl))
  f278 := Tryd.func64.trans (congrArg some (by kernel_rfl))
  t4 := Tryd.underlying4
  a4 := Tryd.isAgg4
  z4 := Tryd.sizeOf4
  v4 := Tryd.zeroValue4
  t5 := Tryd.underlying5
  a5 := Tryd.isAgg5
  z5 := Tryd.sizeOf5
  v5 := Tryd.zeroValue5
  t21 := Tryd.underlying21
  a21 := Tryd.isAgg21
  z21 := Tryd.sizeOf21
  v21 := Tryd.zeroValue21
  t37 := Tryd.underlying28
  a37 := Tryd.isAgg28
  z37 := Tryd.sizeOf28
  v37 := Tryd.zeroValue28
  t46 := Tryd.underlying73
  a46 := Tryd.isAgg73
  z46 := Tryd.sizeOf73
  v46 := Tryd.zeroValue73
  t51 := Tryd.underlying106
  a51 := Tryd.isAgg106
  z51 := Tryd.sizeOf106
  v51 := Tryd.zeroValue106 }
open Go.RowKit in
theorem Tryd.utf8_AppendRune_row (B : Nat) (v : Value) (n : Nat) (xs : List Value) (r : Int) (hr0 : -2147483648 ≤ r) (hr1 : r ≤ 2147483647) (w : World) (hown : w.ownsRowF B 5 1 v n xs) (hlen : n + 4 ≤ 140737488355328) (hBw : B ≤ w.heap.size) :
    Calls Tryd.prog 50 #[v, .int .i32 r] w fun e w' => ∃ v', e = .returned v' ∧ w'.ownsRowF B 5 1 v' (n + (Lib.runeCells r).length) (xs ++ Lib.runeCells r) ∧ ∃ o, (w.alloc o).grownBy w' v.ownBlock := Any.utf8_AppendRune_row Tryd.lays242 (by kernel_rfl) B v n xs r hr0 hr1 w hown hlen hBw
def Tryd.lays99_ren : Go.Shelf.Ren := ⟨fun | 99 => 44 | 206 => 59 | n => n, fun | 9 => 9 | 4 => 4 | 3 => 3 | n => n, fun | n => n⟩
theorem Tryd.lays99 : Go.Proofs.Lays.n99 Tryd.prog Tryd.lays99_ren := {
  mixed := by kernel_rfl
  f99 := Tryd.func44.trans (congrArg some (by kernel_rfl))
  f206 := Tryd.func59.trans (congrArg some (by kernel_rfl))
  t3 := Tryd.underlying3
  a3 := Tryd.isAgg3
  z3 := Tryd.sizeOf3
  v3 := Tryd.zeroValue3
  t4 := Tryd.underlying4
  a4 := Tryd.isAgg4
  z4 := Tryd.sizeOf4
  v4 := Tryd.zeroValue4
  t9 := Tryd.underlying9
  a9 := Tryd.isAgg9
  z9 := Tryd.sizeOf9
  v9 := Tryd.zeroValue9 }
open Go.RowKit Go.Lib in
theorem Tryd.strings_HasPrefix (s p : ByteArray) (w : World) :
    Calls Tryd.prog 44 #[.string s, .string p] w fun e w' => e = .returned (.bool (Lib.hasPrefix s.data.toList p.data.toList)) ∧ w' = w := Any.strings_HasPrefix Tryd.lays99 s p w
end Go.Proofs

namespace Go.Proofs.YtpfhgolamlnhiaaDoor
open Go.RowKit
structure Nm where
  s : ByteArray
  r : Int
  al : Bool
def nm : List Nm :=
  [⟨⟨#[65, 77, 80]⟩, 38, true⟩,
   ⟨⟨#[67, 79, 80, 89]⟩, 169, true⟩,
   ⟨⟨#[71, 84]⟩, 62, true⟩,
   ⟨⟨#[76, 84]⟩, 60, true⟩,
   ⟨⟨#[81, 85, 79, 84]⟩, 34, true⟩,
   ⟨⟨#[82, 69, 71]⟩, 174, true⟩,
   ⟨⟨#[97, 109, 112]⟩, 38, true⟩,
   ⟨⟨#[97, 112, 111, 115]⟩, 39, false⟩,
   ⟨⟨#[98, 117, 108, 108]⟩, 8226, false⟩,
   ⟨⟨#[99, 101, 110, 116]⟩, 162, true⟩,
   ⟨⟨#[99, 111, 112, 121]⟩, 169, true⟩,
   ⟨⟨#[100, 97, 114, 114]⟩, 8595, false⟩,
   ⟨⟨#[100, 101, 103]⟩, 176, true⟩,
   ⟨⟨#[100, 105, 118, 105, 100, 101]⟩, 247, true⟩,
   ⟨⟨#[101, 109, 115, 112]⟩, 8195, false⟩,
   ⟨⟨#[101, 110, 115, 112]⟩, 8194, false⟩,
   ⟨⟨#[101, 117, 114, 111]⟩, 8364, false⟩,
   ⟨⟨#[103, 101]⟩, 8805, false⟩,
   ⟨⟨#[103, 116]⟩, 62, true⟩,
   ⟨⟨#[104, 101, 108, 108, 105, 112]⟩, 8230, false⟩,
   ⟨⟨#[105, 110]⟩, 8712, false⟩,
   ⟨⟨#[105, 110, 102, 105, 110]⟩, 8734, false⟩,
   ⟨⟨#[108, 97, 110, 103]⟩, 10216, false⟩,
   ⟨⟨#[108, 97, 113, 117, 111]⟩, 171, true⟩,
   ⟨⟨#[108, 97, 114, 114]⟩, 8592, false⟩,
   ⟨⟨#[108, 100, 113, 117, 111]⟩, 8220, false⟩,
   ⟨⟨#[108, 101]⟩, 8804, false⟩,
   ⟨⟨#[108, 114, 109]⟩, 8206, false⟩,
   ⟨⟨#[108, 115, 97, 113, 117, 111]⟩, 8249, false⟩,
   ⟨⟨#[108, 115, 113, 117, 111]⟩, 8216, false⟩,
   ⟨⟨#[108, 116]⟩, 60, true⟩,
   ⟨⟨#[109, 100, 97, 115, 104]⟩, 8212, false⟩,
   ⟨⟨#[109, 105, 100, 100, 111, 116]⟩, 183, true⟩,
   ⟨⟨#[109, 105, 110, 117, 115]⟩, 8722, false⟩,
   ⟨⟨#[110, 98, 115, 112]⟩, 160, true⟩,
   ⟨⟨#[110, 100, 97, 115, 104]⟩, 8211, false⟩,
   ⟨⟨#[110, 101]⟩, 8800, false⟩,
   ⟨⟨#[110, 111, 116]⟩, 172, true⟩,
   ⟨⟨#[110, 111, 116, 105, 110]⟩, 8713, false⟩,
   ⟨⟨#[112, 97, 114, 97]⟩, 182, true⟩,
   ⟨⟨#[112, 108, 117, 115, 109, 110]⟩, 177, true⟩,
   ⟨⟨#[112, 111, 117, 110, 100]⟩, 163, true⟩,
   ⟨⟨#[113, 117, 111, 116]⟩, 34, true⟩,
   ⟨⟨#[114, 97, 110, 103]⟩, 10217, false⟩,
   ⟨⟨#[114, 97, 113, 117, 111]⟩, 187, true⟩,
   ⟨⟨#[114, 97, 114, 114]⟩, 8594, false⟩,
   ⟨⟨#[114, 100, 113, 117, 111]⟩, 8221, false⟩,
   ⟨⟨#[114, 101, 103]⟩, 174, true⟩,
   ⟨⟨#[114, 108, 109]⟩, 8207, false⟩,
   ⟨⟨#[114, 115, 97, 113, 117, 111]⟩, 8250, false⟩,
   ⟨⟨#[114, 115, 113, 117, 111]⟩, 8217, false⟩,
   ⟨⟨#[115, 101, 99, 116]⟩, 167, true⟩,
   ⟨⟨#[115, 104, 121]⟩, 173, true⟩,
   ⟨⟨#[116, 104, 105, 110, 115, 112]⟩, 8201, false⟩,
   ⟨⟨#[116, 105, 109, 101, 115]⟩, 215, true⟩,
   ⟨⟨#[117, 97, 114, 114]⟩, 8593, false⟩,
   ⟨⟨#[121, 101, 110]⟩, 165, true⟩,
   ⟨⟨#[122, 119, 106]⟩, 8205, false⟩,
   ⟨⟨#[122, 119, 110, 106]⟩, 8204, false⟩]
def nmAt (i : Nat) : Nm := nm.getD i ⟨⟨#[]⟩, 0, false⟩
def othT : List Int := [8364, 0, 8218, 402, 8222, 8230, 8224, 8225, 710, 8240, 352, 8249, 338, 0, 381, 0, 0, 8216, 8217, 8220, 8221, 8226, 8211, 8212, 732, 8482, 353, 8250, 339, 0, 382, 376]
def othAt (i : Nat) : Int := othT.getD i 0
/-- The two tables stand in memory. -/
structure G2 (w : World) : Prop where
  s : ∀ i, i < 59 → w.cell? ⟨0, 3 * i, none⟩ = some (.string (nmAt i).s)
  r : ∀ i, i < 59 → w.cell? ⟨0, 3 * i + 1, none⟩ = some (.int .i32 (nmAt i).r)
  al : ∀ i, i < 59 → w.cell? ⟨0, 3 * i + 2, none⟩ = some (.bool (nmAt i).al)
  oth : ∀ i, i < 32 → w.cell? ⟨1, i, none⟩ = some (.int .i32 (othAt i))
theorem cell_below {w w' : World} {a : Addr} {v : Value} (hb : Below w.heap.size w w') (h : w.cell? a = some v) : w'.cell? a = some v := by
  have hlt : a.block < w.heap.size := by
    rcases Nat.lt_or_ge a.block w.heap.size with hl | hl
    · exact hl
    · unfold World.cell? at h; rw [Array.getElem?_eq_none hl] at h; cases h
  have e := hb.block a.block hlt
  unfold World.cell? at *
  rw [e]; exact h
theorem G2.below {w w' : World} (h : G2 w) (hb : Below w.heap.size w w') : G2 w' := ⟨fun i hi => cell_below hb (h.s i hi), fun i hi => cell_below hb (h.r i hi), fun i hi => cell_below hb (h.al i hi), fun i hi => cell_below hb (h.oth i hi)⟩
end Go.Proofs.YtpfhgolamlnhiaaDoor

namespace Go.Proofs.YtpfhgolamlnhiaaDoor.XP
open Go.RowKit Go.Proofs.YtpfhgolamlnhiaaDoor Go.Proofs.YtpfhgolamlnhiaaDoor.XT Go.Proofs.YtpfhgolamlnhiaaDoorW.PrintWords Go.Proofs.YtpfhgolamlnhiaaDoorW.PrintLast Go.Proofs.YtpfhgolamlnhiaaDoorW.PrintMore
attribute [local go_sem] max2_int min2_int max_two min_two max_three min_three max_four min_four   -- for this text's walks alone
set_option linter.unusedVariables false
set_option linter.unusedSimpArgs false

end Go.Proofs.YtpfhgolamlnhiaaDoor.XP

namespace Go.Proofs.YtpfhgolamlnhiaaDoor.XP
open Go.RowKit Go.Proofs.YtpfhgolamlnhiaaDoor Go.Proofs.YtpfhgolamlnhiaaDoor.XT Go.Proofs.YtpfhgolamlnhiaaDoorW.PrintWords Go.Proofs.YtpfhgolamlnhiaaDoorW.PrintLast Go.Proofs.YtpfhgolamlnhiaaDoorW.PrintMore
attribute [local go_sem] max2_int min2_int max_two min_two max_three min_three max_four min_four   -- for this text's walks alone
set_option linter.unusedVariables false
set_option linter.unusedSimpArgs false

/-! ### charref_digit: function 60 -/
def charref_digit.j0 : Nat → Int → Bool → Option (Int)
 | 0, _, _ => none
 | k + 1, x0, x3 => if x3 = true then (some ((x0 - 48) % 256)) else (if (Go.bits .or .u8 x0 32) ≥ 97 then (if (Go.bits .or .u8 x0 32) ≤ 102 then (some ((((Go.bits .or .u8 x0 32) - 97) % 256) + 10)) else (some 16)) else (some 16))
def charref_digit.f (k : Nat) (a0 : Int) : Option (Int) := if a0 ≥ 48 then (charref_digit.j0 k a0 (decide (a0 ≤ 57))) else (charref_digit.j0 k a0 false)
theorem charref_digit.mono_l : ∀ k, (∀ y0 y1, LeO (charref_digit.j0 k y0 y1) (charref_digit.j0 (k + 1) y0 y1))
 | 0 => fun _ _ r h => by simp [charref_digit.j0] at h
 | k + 1 => by
  have ih0 := charref_digit.mono_l k
  ·intro y0 y1
   unfold charref_digit.j0
   repeat' first
   | (with_reducible exact ih0 _ _)
   | (with_reducible exact LeO.refl _)
   | (with_reducible exact LeO.none _)
   | (with_reducible refine LeO.ite ?_ ?_)
   | (with_reducible refine LeO.bind ?_ (fun _ => ?_))
   | exact ih0 _ _
   | exact LeO.none _
   | refine LeO.ite ?_ ?_
   | refine LeO.bind ?_ (fun _ => ?_)
theorem charref_digit.mono : ∀ a0 k, LeO (charref_digit.f k a0) (charref_digit.f (k + 1) a0) := by
 intro a0 k
 have ih0 := charref_digit.mono_l k
 unfold charref_digit.f
 repeat' first
   | (with_reducible exact ih0 _ _)
   | (with_reducible exact LeO.refl _)
   | (with_reducible exact LeO.none _)
   | (with_reducible refine LeO.ite ?_ ?_)
   | (with_reducible refine LeO.bind ?_ (fun _ => ?_))
   | exact ih0 _ _
   | exact LeO.none _
   | refine LeO.ite ?_ ?_
   | refine LeO.bind ?_ (fun _ => ?_)
set_option maxHeartbeats 80000000 in
set_option maxRecDepth 100000 in
theorem charref_digit.calls (k : Nat) (a0 : Int) (r : Int) (w : World) (h : charref_digit.f k a0 = some r) :
  Calls Tryd.prog 60 #[.int .u8 a0] w fun e w' => e = .returned (.int .i32 r) ∧ Drawn0 w w' := by
 have H : (if a0 ≥ 48 then (charref_digit.j0 k a0 (decide (a0 ≤ 57))) else (charref_digit.j0 k a0 false)) = some r := h
 clear h
 have HC2 := Aside0.mk H
 clear H
 go_enter Tryd.func60, Tryd.ntmps60
 go_upto_region 1 with (fail)
 go_cut [3] (fun v3 wc => ∃ (kq : Nat) (x3_1 : Bool), v3 = .bool x3_1 ∧ Aside0 (charref_digit.j0 kq a0 x3_1 = some r) ∧ Aside0 (kq ≤ k) ∧ Drawn0 w wc)
 case first =>
  have H := HC2.out
  clear HC2
  by_cases c3 : a0 ≥ 48
  ·rw [if_pos c3] at H
   have c3b0 : decide (48 ≤ a0) = true := decide_eq_true c3
   clear c3
   (first | rw [c3b0] | (simp only [i64_w, i32_w]; rw [c3b0]) | skip)
   have H' := Aside0.mk H
   clear H
   go_wp2
   go_meet
   case rel => exact ⟨_, (decide (a0 ≤ 57)), (by first | rfl | (simp; done) | (simp [*]; done) | (simp [bne, List.isEmpty_iff]; done) | (simp [bne, List.isEmpty_iff, *]; done) | (simp [bne]; rfl)), H', ⟨by first | omega | exact Nat.le_refl _⟩, by repeat (first | exact Drawn0.refl _ | apply Drawn0.step)⟩
  ·rw [if_neg c3] at H
   have c3b0 : decide (48 ≤ a0) = false := decide_eq_false c3
   clear c3
   (first | rw [c3b0] | (simp only [i64_w, i32_w]; rw [c3b0]) | skip)
   have H' := Aside0.mk H
   clear H
   go_wp2
   go_meet
   case rel => exact ⟨_, (false), (by first | rfl | (simp; done) | (simp [*]; done) | (simp [bne, List.isEmpty_iff]; done) | (simp [bne, List.isEmpty_iff, *]; done) | (simp [bne]; rfl)), H', ⟨by first | omega | exact Nat.le_refl _⟩, by repeat (first | exact Drawn0.refl _ | apply Drawn0.step)⟩
 case rest =>
  clear HC2
  try clear p2
  try clear c3
  try clear c3b0
  obtain ⟨kq, x3_1, rfl, HA, HJ1, ⟨mc1, rfl⟩⟩ := hcut
  cases kq with
  | zero => exact absurd HA.out (by simp [charref_digit.j0])
  | succ kj1 =>
   have H := HA.out
   clear HA
   simp only [charref_digit.j0] at H
   by_cases c4 : x3_1 = true
   ·subst c4
    have H1 : (some ((a0 - 48) % 256)) = some r := by rw [if_pos rfl] at H; exact H
    clear H
    have H := H1
    clear H1
    obtain rfl := Option.some.inj H
    go_wp2
    go_ret
    exact ⟨by first | rfl | (simp; done) | (simp [*]; done) | (simp [bne, List.isEmpty_iff]; done) | (simp [bne, List.isEmpty_iff, *]; done) | (simp [bne]; rfl), by repeat (first | exact Drawn0.refl _ | apply Drawn0.step)⟩
   ·replace c4 := Bool.eq_false_iff.mpr c4
    subst c4
    have H1 : (if (Go.bits .or .u8 a0 32) ≥ 97 then (if (Go.bits .or .u8 a0 32) ≤ 102 then (some ((((Go.bits .or .u8 a0 32) - 97) % 256) + 10)) else (some 16)) else (some 16)) = some r := by rw [if_neg (show ¬ (false = true) by decide)] at H; exact H
    clear H
    have H := H1
    clear H1
    by_cases c5 : (Go.bits .or .u8 a0 32) ≥ 97
    ·rw [if_pos c5] at H
     have c5b0 : decide (97 ≤ (Go.bits .or .u8 a0 32)) = true := decide_eq_true c5
     clear c5
     by_cases c6 : (Go.bits .or .u8 a0 32) ≤ 102
     ·rw [if_pos c6] at H
      have c6b0 : decide ((Go.bits .or .u8 a0 32) ≤ 102) = true := decide_eq_true c6
      clear c6
      obtain rfl := Option.some.inj H
      go_wp2
      go_ret
      exact ⟨by first | rfl | (simp; done) | (simp [*]; done) | (simp [bne, List.isEmpty_iff]; done) | (simp [bne, List.isEmpty_iff, *]; done) | (simp [bne]; rfl), by repeat (first | exact Drawn0.refl _ | apply Drawn0.step)⟩
     ·rw [if_neg c6] at H
      have c6b0 : decide ((Go.bits .or .u8 a0 32) ≤ 102) = false := decide_eq_false c6
      clear c6
      obtain rfl := Option.some.inj H
      go_wp2
      go_ret
      exact ⟨by first | rfl | (simp; done) | (simp [*]; done) | (simp [bne, List.isEmpty_iff]; done) | (simp [bne, List.isEmpty_iff, *]; done) | (simp [bne]; rfl), by repeat (first | exact Drawn0.refl _ | apply Drawn0.step)⟩
    ·rw [if_neg c5] at H
     have c5b0 : decide (97 ≤ (Go.bits .or .u8 a0 32)) = false := decide_eq_false c5
     clear c5
     obtain rfl := Option.some.inj H
     go_wp2
     go_ret
     exact ⟨by first | rfl | (simp; done) | (simp [*]; done) | (simp [bne, List.isEmpty_iff]; done) | (simp [bne, List.isEmpty_iff, *]; done) | (simp [bne]; rfl), by repeat (first | exact Drawn0.refl _ | apply Drawn0.step)⟩

/-! ### charref_alnum: function 46 -/
def charref_alnum.f (a0 : Int) : Option (Bool) := if a0 ≥ 48 then (if a0 ≤ 57 then (some true) else (if (Go.bits .or .u8 a0 32) ≥ 97 then (some (decide ((Go.bits .or .u8 a0 32) ≤ 122))) else (some false))) else (if (Go.bits .or .u8 a0 32) ≥ 97 then (some (decide ((Go.bits .or .u8 a0 32) ≤ 122))) else (some false))
set_option maxHeartbeats 80000000 in
set_option maxRecDepth 100000 in
theorem charref_alnum.calls (a0 : Int) (r : Bool) (w : World) (h : charref_alnum.f a0 = some r) :
  Calls Tryd.prog 46 #[.int .u8 a0] w fun e w' => e = .returned (.bool r) ∧ Drawn0 w w' := by
 have H : (if a0 ≥ 48 then (if a0 ≤ 57 then (some true) else (if (Go.bits .or .u8 a0 32) ≥ 97 then (some (decide ((Go.bits .or .u8 a0 32) ≤ 122))) else (some false))) else (if (Go.bits .or .u8 a0 32) ≥ 97 then (some (decide ((Go.bits .or .u8 a0 32) ≤ 122))) else (some false))) = some r := h
 clear h
 by_cases c2 : a0 ≥ 48
 ·rw [if_pos c2] at H
  have c2b0 : decide (48 ≤ a0) = true := decide_eq_true c2
  clear c2
  by_cases c3 : a0 ≤ 57
  ·rw [if_pos c3] at H
   have c3b0 : decide (a0 ≤ 57) = true := decide_eq_true c3
   clear c3
   obtain rfl := Option.some.inj H
   go_enter Tryd.func46, Tryd.ntmps46
   go_wp2
   go_ret
   exact ⟨by first | rfl | (simp; done) | (simp [*]; done) | (simp [bne, List.isEmpty_iff]; done) | (simp [bne, List.isEmpty_iff, *]; done) | (simp [bne]; rfl), by repeat (first | exact Drawn0.refl _ | apply Drawn0.step)⟩
  ·rw [if_neg c3] at H
   have c3b0 : decide (a0 ≤ 57) = false := decide_eq_false c3
   clear c3
   by_cases c4 : (Go.bits .or .u8 a0 32) ≥ 97
   ·rw [if_pos c4] at H
    have c4b0 : decide (97 ≤ (Go.bits .or .u8 a0 32)) = true := decide_eq_true c4
    clear c4
    obtain rfl := Option.some.inj H
    go_enter Tryd.func46, Tryd.ntmps46
    go_wp2
    go_ret
    exact ⟨by first | rfl | (simp; done) | (simp [*]; done) | (simp [bne, List.isEmpty_iff]; done) | (simp [bne, List.isEmpty_iff, *]; done) | (simp [bne]; rfl), by repeat (first | exact Drawn0.refl _ | apply Drawn0.step)⟩
   ·rw [if_neg c4] at H
    have c4b0 : decide (97 ≤ (Go.bits .or .u8 a0 32)) = false := decide_eq_false c4
    clear c4
    obtain rfl := Option.some.inj H
    go_enter Tryd.func46, Tryd.ntmps46
    go_wp2
    go_ret
    exact ⟨by first | rfl | (simp; done) | (simp [*]; done) | (simp [bne, List.isEmpty_iff]; done) | (simp [bne, List.isEmpty_iff, *]; done) | (simp [bne]; rfl), by repeat (first | exact Drawn0.refl _ | apply Drawn0.step)⟩
 ·rw [if_neg c2] at H
  have c2b0 : decide (48 ≤ a0) = false := decide_eq_false c2
  clear c2
  by_cases c5 : (Go.bits .or .u8 a0 32) ≥ 97
  ·rw [if_pos c5] at H
   have c5b0 : decide (97 ≤ (Go.bits .or .u8 a0 32)) = true := decide_eq_true c5
   clear c5
   obtain rfl := Option.some.inj H
   go_enter Tryd.func46, Tryd.ntmps46
   go_wp2
   go_ret
   exact ⟨by first | rfl | (simp; done) | (simp [*]; done) | (simp [bne, List.isEmpty_iff]; done) | (simp [bne, List.isEmpty_iff, *]; done) | (simp [bne]; rfl), by repeat (first | exact Drawn0.refl _ | apply Drawn0.step)⟩
  ·rw [if_neg c5] at H
   have c5b0 : decide (97 ≤ (Go.bits .or .u8 a0 32)) = false := decide_eq_false c5
   clear c5
   obtain rfl := Option.some.inj H
   go_enter Tryd.func46, Tryd.ntmps46
   go_wp2
   go_ret
   exact ⟨by first | rfl | (simp; done) | (simp [*]; done) | (simp [bne, List.isEmpty_iff]; done) | (simp [bne, List.isEmpty_iff, *]; done) | (simp [bne]; rfl), by repeat (first | exact Drawn0.refl _ | apply Drawn0.step)⟩

end Go.Proofs.YtpfhgolamlnhiaaDoor.XP

namespace Go.Proofs.YtpfhgolamlnhiaaDoor.XP
open Go.RowKit Go.Proofs.YtpfhgolamlnhiaaDoor Go.Proofs.YtpfhgolamlnhiaaDoor.XT Go.Proofs.YtpfhgolamlnhiaaDoorW.PrintWords Go.Proofs.YtpfhgolamlnhiaaDoorW.PrintLast Go.Proofs.YtpfhgolamlnhiaaDoorW.PrintMore
attribute [local go_sem] max2_int min2_int max_two min_two max_three min_three max_four min_four   -- for this text's walks alone
set_option linter.unusedVariables false
set_option linter.unusedSimpArgs false

end Go.Proofs.YtpfhgolamlnhiaaDoor.XP

set_option linter.unusedVariables false
set_option linter.unusedSimpArgs false
namespace Go.Proofs.YtpfhgolamlnhiaaDoor
open Go.RowKit Go.Proofs.YtpfhgolamlnhiaaDoorW.PrintWords

def cmpB (a b : ByteArray) : Int := Lib.compareBytes a.data.toList b.data.toList
set_option maxRecDepth 100000 in
theorem cmp_calls (n : Nm) (s : ByteArray) (w : World) :
    Calls Tryd.prog 48 #[.agg #[.string n.s, .int .i32 n.r, .bool n.al], .string s] w fun e w' => e = .returned (.int .i64 (cmpB n.s s)) ∧ Below w.heap.size w w' := by
  have hu := Tryd.underlying81
  go_enter Tryd.func48, Tryd.ntmps48
  go_wp2_with (go_at_call 49; refine (Tryd.strings_Compare _ _ _).mono ?_; rintro e w' ⟨rfl, rfl⟩)
  go_ret
  exact ⟨rfl, below_alloc (Below.refl _ _) _⟩

/-- Where the search ends. -/
def bsGo (s : ByteArray) : Nat → Nat → Nat → Nat
  | 0, i, _ => i
  | f + 1, i, j => if i < j then (if cmpB (nmAt ((i + j) / 2)).s s < 0 then bsGo s f ((i + j) / 2 + 1) j else bsGo s f i ((i + j) / 2)) else i
def bs (s : ByteArray) : Nat := bsGo s 60 0 59
def bsHit (s : ByteArray) : Bool := decide (bs s < 59) && cmpB (nmAt (bs s)).s s == 0
set_option maxRecDepth 100000 in
theorem bin_calls (s : ByteArray) (w : World) (h2 : G2 w) :
    Calls Tryd.prog 47 #[.slice (some ⟨0, 0, none⟩) 59 59, .string s, .func (.func 48) #[] #[]] w
      fun e w' => e = .returned (.tuple #[.int .i64 (bs s : Nat), .bool (bsHit s)]) ∧ Below w.heap.size w w' := by
  have hu := Tryd.underlying81
  have HG := Lib.hid h2
  clear h2
  go_enter Tryd.func47, Tryd.ntmps47
  go_wp2
  go_loopw [9, 10] (fun v9 v10 wr => ∃ (i j f : Nat), v9 = .int .i64 i ∧ v10 = .int .i64 j ∧ i ≤ j ∧ j ≤ 59 ∧ j - i < f ∧ Hid (bsGo s f i j = bs s) ∧ Hid (Below w.heap.size w wr)) (fun v9 v10 wr => (intOf v10).toNat - (intOf v9).toNat)
  case atStart => exact ⟨0, 59, 60, rfl, rfl, by omega, by omega, by omega, Lib.hid rfl, Lib.hid (Below.refl _ _)⟩
  case round =>
    obtain ⟨i, j, f, rfl, rfl, hij, hj, hf, hgo, hb⟩ := hrel
    by_cases hlt : i < j
    · have hh : (i + j) / 2 < 59 := by omega
      obtain ⟨f, rfl⟩ : ∃ m, f = m + 1 := ⟨f - 1, by omega⟩
      have hg := hgo.out
      rw [bsGo, if_pos hlt] at hg
      have G := HG.out.below hb.out
      have z0 := G.s _ hh
      have z1 := G.r _ hh
      have z2 := G.al _ hh
      rw [Nat.mul_comm 3] at z0 z1 z2
      have ec : ((i : Int) + (j : Int)) / 2 = (((i + j) / 2 : Nat) : Int) := by omega
      have hlz : ((i + j) / 2) * 3 + 3 < 1000 := by omega
      generalize hm : (i + j) / 2 = h at *
      go_wp2_with (go_at_call 48; refine (cmp_calls (nmAt h) s _).mono ?_; rintro e w1 ⟨rfl, hb1⟩)
      · rename_i hc
        rw [if_pos hc] at hg
        exact ⟨⟨h + 1, j, f, by go_num, rfl, by omega, by omega, by omega, Lib.hid hg, Lib.hid (below_then hb.out hb.out.size hb1)⟩, by simp [intOf]; omega⟩
      · rename_i hc
        rw [if_neg (by omega)] at hg
        exact ⟨⟨i, h, f, rfl, rfl, by omega, by omega, by omega, Lib.hid hg, Lib.hid (below_then hb.out hb.out.size hb1)⟩, by simp [intOf]; omega⟩
    · have hg := hgo.out
      obtain ⟨f, rfl⟩ : ∃ m, f = m + 1 := ⟨f - 1, by omega⟩
      rw [bsGo, if_neg hlt] at hg
      obtain rfl : i = j := by omega
      have HE := Lib.hid hg
      clear hg hgo
      by_cases h59 : i < 59
      · have G := HG.out.below hb.out
        have z0 := G.s _ h59
        have z1 := G.r _ h59
        have z2 := G.al _ h59
        rw [Nat.mul_comm 3] at z0 z1 z2
        have hlz : i * 3 + 3 < 1000 := by omega
        have h5' : decide ((i : Int) < 59) = true := by simp; omega
        go_wp2_with (go_at_call 48; refine (cmp_calls (nmAt i) s _).mono ?_; rintro e w1 ⟨rfl, hb1⟩)
        go_ret2
        refine ⟨?_, below_then hb.out hb.out.size hb1⟩
        have e := HE.out
        simp [bsHit, ← e, h59]
      · go_wp2_with fail
        go_ret2
        refine ⟨?_, hb.out⟩
        have e := HE.out
        simp [bsHit, ← e, h59]
end Go.Proofs.YtpfhgolamlnhiaaDoor

set_option linter.unusedVariables false
set_option linter.unusedSimpArgs false
namespace Go.Proofs.YtpfhgolamlnhiaaDoor
open Go.RowKit Go.Proofs.YtpfhgolamlnhiaaDoorW.PrintWords Go.Proofs.YtpfhgolamlnhiaaDoor.XP

/-- A digit's number, 16 where it is none. -/
def dg (c : Nat) : Int := (charref_digit.f 1 c).getD 0
theorem dg_some (c : Nat) : charref_digit.f 1 c = some (dg c) := by
  unfold dg charref_digit.f
  simp only [charref_digit.j0]
  repeat' split
  all_goals rfl
theorem dg_le (c : Nat) (hc : c < 256) : 0 ≤ dg c ∧ dg c ≤ 16 := by
  have : ∀ c : Fin 256, 0 ≤ dg c.1 ∧ dg c.1 ≤ 16 := by decide +kernel
  exact this ⟨c, hc⟩
def numLoop (s : ByteArray) (base : Int) : Nat → Nat → Int → Nat × Int
  | 0, i, n => (i, n)
  | f + 1, i, n => if i < s.size ∧ dg (Sv.at' s i) < base then numLoop s base f (i + 1) (min (n * base + dg (Sv.at' s i)) 1114112) else (i, n)
def isX (s : ByteArray) : Bool := decide (s.size ≠ 0) && (Go.bits .or .u8 (Sv.at' s 0) 32 == 120)
def numRune (n : Int) : Int := if n = 0 ∨ Lib.validRune n = false then 65533 else if 128 ≤ n ∧ n ≤ 159 ∧ othAt (n - 128).toNat ≠ 0 then othAt (n - 128).toNat else n
def numRest (rest : ByteArray) (d : Nat) : ByteArray := ⟨(Lib.trimPrefix (List.take (rest.size - d) (List.drop d rest.data.toList)) [59]).toArray⟩
def numP (s : ByteArray) : Int × Int × Bool :=
  let rest := if isX s then s.extract 1 s.size else s
  let d := numLoop rest (if isX s then 16 else 10) (rest.size + 1) 0 0
  if d.1 = 0 then (0, 0, false) else (numRune d.2, (s.size : Int) - (numRest rest d.1).size, true)

theorem at_get (s : ByteArray) (i : Nat) (h : i < s.size) : Sv.at' s i = s[i].toNat := by
  unfold Sv.at'
  congr 1
  exact getElem!_pos s.data i h
theorem ne_list (s : ByteArray) (h : s.size ≠ 0) : ¬ s.toList = [] := by
  rw [ByteArray.toList_eq]
  intro e
  apply h
  rw [← Sv.size_list, e]
  rfl
theorem numLoop_bound (s : ByteArray) (base : Int) : ∀ (f i : Nat) (n : Int), i ≤ s.size → (numLoop s base f i n).1 ≤ s.size
  | 0, i, n, h => h
  | f + 1, i, n, h => by
    unfold numLoop
    split
    · exact numLoop_bound s base f (i + 1) _ (by omega)
    · exact h
def restOf (s : ByteArray) : ByteArray := if isX s then s.extract 1 s.size else s
def baseOf (s : ByteArray) : Int := if isX s then 16 else 10
set_option maxRecDepth 100000 in
theorem number_calls (s : ByteArray) (w : World) (h2 : G2 w) (hs : s.size ≤ 4611686018427387904) :
    Calls Tryd.prog 45 #[.string s] w fun e w' => e = .returned (.tuple #[.int .i32 (numP s).1, .int .i64 (numP s).2.1, .bool (numP s).2.2]) ∧ Below w.heap.size w w' := by
  have HG := Lib.hid h2
  clear h2
  by_cases h0 : s.size = 0
  · obtain rfl : s = ⟨#[]⟩ := ByteArray.ext (Array.size_eq_zero_iff.1 h0)
    rw [show numP ⟨#[]⟩ = (0, 0, false) by decide +kernel]
    go_enter Tryd.func45, Tryd.ntmps45
    go_wp2_with fail
    go_loopw [7, 8] (fun v7 v8 wr => v7 = .int .i64 0 ∧ v8 = .int .i32 0 ∧ wr = w) (fun v7 v8 wr => 0)
    case atStart => exact ⟨rfl, rfl, rfl⟩
    case round =>
      obtain ⟨rfl, rfl, rfl⟩ := hrel
      go_wp2_with fail
      go_ret3
      exact ⟨rfl, Below.refl _ _⟩
  · have hne := ne_list s h0
    have hpos : 0 < s.size := by omega
    have hat := at_get s 0 hpos
    have HX : Hid (isX s = (Go.bits .or .u8 (s[0].toNat : Int) 32 == 120)) := by
      show isX s = _
      unfold isX
      rw [hat]; simp [h0]
    clear hat
    go_enter Tryd.func45, Tryd.ntmps45
    go_upto_if 17 with fail
    go_cut [5, 6] from 9 to 19 (fun v5 v6 wc => v5 = .string (restOf s) ∧ v6 = .int .i32 (baseOf s) ∧ wc = w)
    case first =>
      go_wp2_with fail
      · rename_i hc
        go_meet
        case rel =>
          have e : isX s = true := by rw [HX.out]; exact hc.2
          exact ⟨by rw [restOf, if_pos e], by rw [baseOf, if_pos e], rfl⟩
      · rename_i hc
        go_meet
        case rel =>
          have e : ¬ isX s = true := by
            rw [HX.out]
            rcases hc with hc | hc
            · exact absurd (by simpa using hc) hne
            · rw [hc]; decide
          exact ⟨by rw [restOf, if_neg e], by rw [baseOf, if_neg e], rfl⟩
    case rest =>
      obtain ⟨rfl, rfl, rfl⟩ := hcut
      have hbase : 10 ≤ baseOf s ∧ baseOf s ≤ 16 := by unfold baseOf; split <;> omega
      have hrs : (restOf s).size ≤ s.size := by unfold restOf; split <;> simp [ByteArray.size_extract]
      have HP : Hid (numP s = if (numLoop (restOf s) (baseOf s) ((restOf s).size + 1) 0 0).1 = 0 then (0, 0, false) else (numRune (numLoop (restOf s) (baseOf s) ((restOf s).size + 1) 0 0).2, (s.size : Int) - (numRest (restOf s) (numLoop (restOf s) (baseOf s) ((restOf s).size + 1) 0 0).1).size, true)) := rfl
      generalize restOf s = rest at *
      generalize baseOf s = base at *
      clear HX hne hpos h0
      go_upto_block 0 with fail
      go_cut [7, 8] from 20 to 42 (fun v7 v8 wd => ∃ (i : Nat) (n : Int), v7 = .int .i64 i ∧ v8 = .int .i32 n ∧ i ≤ rest.size ∧ 0 ≤ n ∧ n ≤ 1114112 ∧ Hid (numLoop rest base (rest.size + 1) 0 0 = (i, n)) ∧ Hid (Below wc.heap.size wc wd))
      case first =>
        go_wp2_with fail
        go_loopw [7, 8] (fun v7 v8 wr => ∃ (i f : Nat) (n : Int), v7 = .int .i64 i ∧ v8 = .int .i32 n ∧ i ≤ rest.size ∧ 0 ≤ n ∧ n ≤ 1114112 ∧ rest.size - i < f ∧ Hid (numLoop rest base f i n = numLoop rest base (rest.size + 1) 0 0) ∧ Hid (Below wc.heap.size wc wr)) (fun v7 v8 wr => rest.size - (intOf v7).toNat)
        case atStart => exact ⟨0, rest.size + 1, 0, rfl, rfl, by omega, by omega, by omega, by omega, Lib.hid rfl, Lib.hid (Below.refl _ _)⟩
        case round =>
          obtain ⟨i, f, n, rfl, rfl, hi, hn0, hn1, hf, hgo, hb⟩ := hrel
          obtain ⟨f, rfl⟩ : ∃ m, f = m + 1 := ⟨f - 1, by omega⟩
          by_cases hlt : i < rest.size
          · have hd := dg_le rest[i].toNat (by have := rest[i].toNat_lt; omega)
            have hbd : -2147483648 ≤ n * base ∧ n * base + 16 ≤ 2147483647 ∧ 0 ≤ n * base := by
              have h1 : 0 ≤ n * base := Int.mul_nonneg hn0 (by omega)
              have h2 : n * base ≤ 1114112 * 16 := Int.mul_le_mul hn1 hbase.2 (by omega) (by omega)
              omega
            have hg := hgo.out
            rw [numLoop, at_get rest i hlt] at hg
            have HGO := Lib.hid hg
            clear hg hgo
            generalize hdd : dg rest[i].toNat = dd at *
            have HD : charref_digit.f 1 (rest[i].toNat : Int) = some dd := by rw [← hdd]; exact dg_some _
            go_wp2_with (go_at_call 60; refine (charref_digit.calls 1 _ _ _ HD).mono ?_; rintro e w1 ⟨rfl, hd1⟩)
            · rename_i wa hda hc
              have hg := HGO.out
              rw [if_pos ⟨hlt, hc⟩] at hg
              exact ⟨⟨i + 1, f, min (n * base + dd) 1114112, by go_num, rfl, by omega, by omega, by omega, by omega, Lib.hid hg, Lib.hid (below_then (below_then hb.out hb.out.size hda.below) (below_then hb.out hb.out.size hda.below).size hd1.below)⟩, by simp [intOf]; omega⟩
            · rename_i hc
              go_meet
              case rel =>
                have hg := HGO.out
                rw [if_neg (by omega)] at hg
                exact ⟨i, n, rfl, rfl, by omega, by omega, by omega, Lib.hid hg.symm, Lib.hid (below_then hb.out hb.out.size hd1.below)⟩
          · have hg := hgo.out
            rw [numLoop, if_neg (by omega)] at hg
            have HGO := Lib.hid hg
            clear hg hgo
            go_wp2_with fail
            go_meet
            case rel => exact ⟨i, n, rfl, rfl, by omega, by omega, by omega, Lib.hid HGO.out.symm, hb⟩
      case rest =>
        obtain ⟨i, n, rfl, rfl, hi, hn0, hn1, hL, hb⟩ := hcut
        have hP := HP.out
        rw [hL.out] at hP
        have HQ := Lib.hid hP
        clear hP hL HP
        by_cases hz : i = 0
        · subst hz
          go_wp2_with fail
          go_ret3
          refine ⟨?_, hb.out⟩
          rw [HQ.out]
          rfl
        · have hlen : (numRest rest i).size ≤ s.size := by
            have h1 : (Lib.trimPrefix (List.take (rest.size - i) (List.drop i rest.data.toList)) [59]).length ≤ rest.size := by
              unfold Lib.trimPrefix
              split <;> simp [Sv.size_list] <;> omega
            show (Lib.trimPrefix (List.take (rest.size - i) (List.drop i rest.data.toList)) [59]).toArray.size ≤ _
            rw [List.size_toArray]
            omega
          have fin : ∀ r, r = numRune n → Ending.returned (.tuple #[.int .i32 r, .int .i64 (wrap64 ((s.size : Int) - ((Lib.trimPrefix (List.take (rest.size - i) (List.drop i rest.data.toList)) [59]).length : Nat))), .bool true]) = Ending.returned (.tuple #[.int .i32 (numP s).1, .int .i64 (numP s).2.1, .bool (numP s).2.2]) := by
            intro r hr
            have hl2 : (Lib.trimPrefix (List.take (rest.size - i) (List.drop i rest.data.toList)) [59]).length = (numRest rest i).size := by
              show _ = (Lib.trimPrefix (List.take (rest.size - i) (List.drop i rest.data.toList)) [59]).toArray.size
              rw [List.size_toArray]
            rw [HQ.out, if_neg hz, hr, hl2]
            have : wrap64 ((s.size : Int) - ((numRest rest i).size : Nat)) = (s.size : Int) - ((numRest rest i).size : Nat) := by unfold wrap64; omega
            rw [this]
          clear hlen
          have FIN := Lib.hid fin
          clear fin
          by_cases hr : 128 ≤ n ∧ n ≤ 159
          · have zc := (HG.out.below hb.out).oth (n - 128).toNat (by omega)
            have RN : Hid (numRune n = if n = 0 ∨ Lib.validRune n = false then 65533 else if othAt (n - 128).toNat ≠ 0 then othAt (n - 128).toNat else n) := by
              show numRune n = _
              unfold numRune
              simp [hr.1, hr.2]
            generalize othAt (n - 128).toNat = o at *
            go_wp2_with (first | (go_at_call 61; refine (Tryd.strings_CutPrefix _ _ _).mono ?_; rintro e w1 ⟨rfl, rfl⟩) | (go_at_call 62; refine (Tryd.utf8_ValidRune _ _).mono ?_; rintro e w1 ⟨rfl, rfl⟩))
            all_goals (go_ret3; refine ⟨FIN.out _ ?_, hb.out⟩; rw [RN.out]; clear FIN RN HQ hb HG; (try clear zc); (repeat' split) <;> simp_all)
          · have RN : Hid (numRune n = if n = 0 ∨ Lib.validRune n = false then 65533 else n) := by
              show numRune n = _
              unfold numRune
              have : ¬ (128 ≤ n ∧ n ≤ 159 ∧ othAt (n - 128).toNat ≠ 0) := by omega
              rw [if_neg this]
            go_wp2_with (first | (go_at_call 61; refine (Tryd.strings_CutPrefix _ _ _).mono ?_; rintro e w1 ⟨rfl, rfl⟩) | (go_at_call 62; refine (Tryd.utf8_ValidRune _ _).mono ?_; rintro e w1 ⟨rfl, rfl⟩))
            all_goals (go_ret3; refine ⟨FIN.out _ ?_, hb.out⟩; rw [RN.out]; clear FIN RN HQ hb HG; (try clear zc); (repeat' split) <;> simp_all)
end Go.Proofs.YtpfhgolamlnhiaaDoor

set_option linter.unusedVariables false
set_option linter.unusedSimpArgs false
namespace Go.Proofs.YtpfhgolamlnhiaaDoor
open Go.RowKit Go.Proofs.YtpfhgolamlnhiaaDoorW.PrintWords Go.Proofs.YtpfhgolamlnhiaaDoor.XP

/-- Is it a letter or a digit? -/
def an (c : Nat) : Bool := (charref_alnum.f c).getD false
theorem an_some (c : Nat) : charref_alnum.f c = some (an c) := by
  unfold an charref_alnum.f
  repeat' split
  all_goals rfl
def endLoop (s : ByteArray) : Nat → Nat → Nat
  | 0, i => i
  | f + 1, i => if i < s.size ∧ an (Sv.at' s i) = true then endLoop s f (i + 1) else i
def findLoop (s : ByteArray) (attr : Bool) : Nat → Int × Int × Bool
  | 0 => (0, 0, false)
  | e + 1 => if 1 ≤ e then
      (if bsHit (s.extract 1 (e + 1)) = false then findLoop s attr e
       else if e + 1 < s.size ∧ Sv.at' s (e + 1) = 59 then ((nmAt (bs (s.extract 1 (e + 1)))).r, (e : Int) + 1 + 1, true)
       else if (nmAt (bs (s.extract 1 (e + 1)))).al = false then findLoop s attr e
       else if attr = true ∧ e + 1 < s.size ∧ (Sv.at' s (e + 1) = 61 ∨ an (Sv.at' s (e + 1)) = true) then (0, 0, false)
       else ((nmAt (bs (s.extract 1 (e + 1)))).r, (e : Int) + 1, true))
    else (0, 0, false)
def findP (s : ByteArray) (attr : Bool) : Int × Int × Bool :=
  if s.size = 0 ∨ Sv.at' s 0 ≠ 38 then (0, 0, false)
  else if Lib.hasPrefix s.data.toList [38, 35] = true then
    (if (numP (s.extract 2 s.size)).2.2 = true then ((numP (s.extract 2 s.size)).1, (numP (s.extract 2 s.size)).2.1 + 2, true) else (0, 0, false))
  else findLoop s attr (endLoop s (s.size + 1) 1)
theorem bs_hit (s : ByteArray) (h : bsHit s = true) : bs s < 59 := by
  unfold bsHit at h
  simp at h
  exact h.1
theorem numRest_le (rest : ByteArray) (i : Nat) : (numRest rest i).size ≤ rest.size := by
  have h1 : (Lib.trimPrefix (List.take (rest.size - i) (List.drop i rest.data.toList)) [59]).length ≤ rest.size := by
    unfold Lib.trimPrefix
    split <;> simp [Sv.size_list] <;> omega
  show (Lib.trimPrefix (List.take (rest.size - i) (List.drop i rest.data.toList)) [59]).toArray.size ≤ _
  rw [List.size_toArray]
  exact h1
theorem numP_bound (s : ByteArray) : 0 ≤ (numP s).2.1 ∧ (numP s).2.1 ≤ s.size := by
  have e : numP s = if (numLoop (restOf s) (baseOf s) ((restOf s).size + 1) 0 0).1 = 0 then (0, 0, false) else (numRune (numLoop (restOf s) (baseOf s) ((restOf s).size + 1) 0 0).2, (s.size : Int) - (numRest (restOf s) (numLoop (restOf s) (baseOf s) ((restOf s).size + 1) 0 0).1).size, true) := rfl
  rw [e]
  have h1 := numRest_le (restOf s) (numLoop (restOf s) (baseOf s) ((restOf s).size + 1) 0 0).1
  have h2 : (restOf s).size ≤ s.size := by unfold restOf; split <;> simp [ByteArray.size_extract]
  split
  · exact ⟨by decide, by simp⟩
  · exact ⟨by simp only; omega, by simp only; omega⟩
theorem endLoop_le (s : ByteArray) : ∀ (f i : Nat), i ≤ s.size → i ≤ endLoop s f i ∧ endLoop s f i ≤ s.size
  | 0, i, h => ⟨Nat.le_refl _, h⟩
  | f + 1, i, h => by
    unfold endLoop
    split
    · have := endLoop_le s f (i + 1) (by omega); omega
    · exact ⟨Nat.le_refl _, h⟩
set_option maxHeartbeats 8000000 in
set_option maxRecDepth 100000 in
theorem find_num (s : ByteArray) (attr : Bool) (w : World) (HG : Hid (G2 w)) (hs : s.size ≤ 4611686018427387904) (hne : ¬ s.toList = []) (hpos : 0 < s.size) (hat : Sv.at' s 0 = s[0].toNat) (hnl : s.toList.isEmpty = false) (h38 : s[0].toNat = 38) (hb38 : ((s[0].toNat : Int) != 38) = false) (hx : Lib.hasPrefix s.data.toList [38, 35] = true) :
    Calls Tryd.prog 30 #[.string s, .bool attr] w fun e w' => e = .returned (.tuple #[.int .i32 (findP s attr).1, .int .i64 (findP s attr).2.1, .bool (findP s attr).2.2]) ∧ Below w.heap.size w w' := by
  have h2 : 2 ≤ s.size := by
    have hq := List.isPrefixOf_iff_prefix.1 hx
    have := hq.length_le
    rw [Sv.size_list] at this
    exact this
  have hsz : (s.extract 2 s.size).size ≤ s.size := by rw [ByteArray.size_extract]; omega
  have HF : Hid (findP s attr = if (numP (s.extract 2 s.size)).2.2 = true then ((numP (s.extract 2 s.size)).1, (numP (s.extract 2 s.size)).2.1 + 2, true) else (0, 0, false)) := by
    show findP s attr = _
    unfold findP
    rw [if_neg (by rw [hat]; omega), if_pos hx]
  have HX := Lib.hid hx
  have hnb := numP_bound (s.extract 2 s.size)
  clear hx hat
  go_enter Tryd.func30, Tryd.ntmps30
  go_wp2_with (first | (go_at_call 44; refine (Tryd.strings_HasPrefix _ _ _).mono ?_; rintro e w1 ⟨rfl, rfl⟩; rw [HX.out]) | (go_at_call 45; refine (number_calls (s.extract 2 s.size) _ HG.out (by omega)).mono ?_; rintro e w1 ⟨rfl, hb1⟩))
  · rename_i hc
    go_ret3
    refine ⟨?_, hb1⟩
    rw [HF.out, if_neg (by intro e; rw [e] at hc; cases hc)]
    rfl
  · rename_i hc
    go_ret3
    refine ⟨?_, hb1⟩
    rw [HF.out, if_pos (by cases e : (numP (s.extract 2 s.size)).2.2 <;> simp_all)]
    rfl
end Go.Proofs.YtpfhgolamlnhiaaDoor

set_option linter.unusedVariables false
set_option linter.unusedSimpArgs false
namespace Go.Proofs.YtpfhgolamlnhiaaDoor
open Go.RowKit Go.Proofs.YtpfhgolamlnhiaaDoorW.PrintWords Go.Proofs.YtpfhgolamlnhiaaDoor.XP
theorem findLoop_eq (s : ByteArray) (attr : Bool) (e : Nat) (h : 1 < e) : findLoop s attr e =
    (if bsHit (s.extract 1 e) = false then findLoop s attr (e - 1)
     else if e < s.size ∧ Sv.at' s e = 59 then ((nmAt (bs (s.extract 1 e))).r, (e : Int) + 1, true)
     else if (nmAt (bs (s.extract 1 e))).al = false then findLoop s attr (e - 1)
     else if attr = true ∧ e < s.size ∧ (Sv.at' s e = 61 ∨ an (Sv.at' s e) = true) then (0, 0, false)
     else ((nmAt (bs (s.extract 1 e))).r, (e : Int), true)) := by
  obtain ⟨m, rfl⟩ : ∃ m, e = m + 1 := ⟨e - 1, by omega⟩
  rw [findLoop, if_pos (by omega)]
  simp only [Nat.add_sub_cancel, Int.natCast_add, Int.cast_ofNat_Int]
set_option maxHeartbeats 8000000 in
set_option maxRecDepth 100000 in
theorem find_named (s : ByteArray) (attr : Bool) (w : World) (HG : Hid (G2 w)) (hs : s.size ≤ 4611686018427387904) (hne : ¬ s.toList = []) (hpos : 0 < s.size) (hat : Sv.at' s 0 = s[0].toNat) (hnl : s.toList.isEmpty = false) (h38 : s[0].toNat = 38) (hb38 : ((s[0].toNat : Int) != 38) = false) (hx : ¬ Lib.hasPrefix s.data.toList [38, 35] = true) :
    Calls Tryd.prog 30 #[.string s, .bool attr] w fun e w' => e = .returned (.tuple #[.int .i32 (findP s attr).1, .int .i64 (findP s attr).2.1, .bool (findP s attr).2.2]) ∧ Below w.heap.size w w' := by
  have HF : Hid (findP s attr = findLoop s attr (endLoop s (s.size + 1) 1)) := by
    show findP s attr = _
    unfold findP
    rw [if_neg (by rw [hat]; omega), if_neg hx]
  have HX := Lib.hid (Bool.eq_false_iff.2 hx)
  clear hx hat
  go_enter Tryd.func30, Tryd.ntmps30
  go_upto_block 0 with (go_at_call 44; refine (Tryd.strings_HasPrefix _ _ _).mono ?_; rintro e w1 ⟨rfl, rfl⟩; rw [HX.out])
  have hE := endLoop_le s (s.size + 1) 1 (by omega)
  go_cut [10] from 35 to 46 (fun v10 wd => v10 = .int .i64 (endLoop s (s.size + 1) 1) ∧ Hid (Below w1.heap.size w1 wd))
  case first =>
    go_wp2_with fail
    go_loopw [10] (fun v10 wr => ∃ (i f : Nat), v10 = .int .i64 i ∧ i ≤ s.size ∧ s.size - i < f ∧ Hid (endLoop s f i = endLoop s (s.size + 1) 1) ∧ Hid (Below w1.heap.size w1 wr)) (fun v10 wr => s.size - (intOf v10).toNat)
    case atStart => exact ⟨1, s.size + 1, rfl, by omega, by omega, Lib.hid rfl, Lib.hid (Below.refl _ _)⟩
    case round =>
      obtain ⟨i, f, rfl, hi, hf, hgo, hb⟩ := hrel
      obtain ⟨f, rfl⟩ : ∃ m, f = m + 1 := ⟨f - 1, by omega⟩
      by_cases hlt : i < s.size
      · have hg := hgo.out
        rw [endLoop, at_get s i hlt] at hg
        have HGO := Lib.hid hg
        clear hg hgo
        have HD := an_some s[i].toNat
        generalize an s[i].toNat = b at *
        go_wp2_with (go_at_call 46; refine (charref_alnum.calls _ _ _ HD).mono ?_; rintro e w3 ⟨rfl, hd1⟩)
        · rename_i hc
          have hg := HGO.out
          rw [if_pos ⟨hlt, hc⟩] at hg
          exact ⟨⟨i + 1, f, by go_num, by omega, by omega, Lib.hid hg, Lib.hid (below_then hb.out hb.out.size hd1.below)⟩, by simp [intOf]; omega⟩
        · rename_i hc
          go_meet
          case rel =>
            have hg := HGO.out
            rw [if_neg (by rw [hc]; simp)] at hg
            exact ⟨by rw [hg], Lib.hid (below_then hb.out hb.out.size hd1.below)⟩
      · have hg := hgo.out
        rw [endLoop, if_neg (by omega)] at hg
        have HGO := Lib.hid hg
        clear hg hgo
        go_wp2_with fail
        go_meet
        case rel => exact ⟨by rw [HGO.out], hb⟩
  case rest =>
    obtain ⟨rfl, hb0⟩ := hcut
    generalize endLoop s (s.size + 1) 1 = e0 at *
    go_wp2_with fail
    go_loopw [10] (fun v10 wr => ∃ (e : Nat), v10 = .int .i64 e ∧ 1 ≤ e ∧ e ≤ s.size ∧ Hid (findLoop s attr e = findLoop s attr e0) ∧ Hid (Below w1.heap.size w1 wr)) (fun v10 wr => (intOf v10).toNat)
    case atStart => exact ⟨e0, rfl, by omega, by omega, Lib.hid rfl, hb0⟩
    case round =>
      obtain ⟨e, rfl, he1, he2, hgo, hb⟩ := hrel
      by_cases hlt : 1 < e
      · have hg := hgo.out
        rw [findLoop_eq s attr e hlt] at hg
        have G := HG.out.below hb.out
        have hle1 : (1 : Int) ≤ (e : Int) := by omega
        have hle2 : (e : Int) ≤ (s.size : Int) := by omega
        generalize hw : s.extract 1 e = wd at *
        have HGO := Lib.hid hg
        clear hg hgo
        have hbs := bs_hit wd
        have BC := bin_calls wd wr G
        generalize hm : bs wd = m at *
        have HM := Lib.hid hm
        clear hm
        cases hh : bsHit wd
        · rw [hh] at BC
          have HB := Lib.hid hh
          clear hh hbs
          go_wp2_with (go_at_call 47; (try rw [hw]); refine BC.mono ?_; rintro e w4 ⟨rfl, hb4⟩)
          have hg := HGO.out
          rw [if_pos HB.out] at hg
          exact ⟨⟨e - 1, by rw [show ((e - 1 : Nat) : Int) = (e : Int) - 1 by omega], by omega, by omega, Lib.hid hg, Lib.hid (below_then hb.out hb.out.size hb4)⟩, by simp [intOf]; omega⟩
        · have h59 := hbs hh
          rw [hh] at BC
          have HB := Lib.hid hh
          clear hh hbs
          by_cases h2 : e < s.size
          · have ha := at_get s e h2
            have HD := an_some s[e].toNat
            go_wp2_with (first | (go_at_call 47; (try rw [hw]); refine BC.mono ?_; rintro e w4 ⟨rfl, hb4⟩; have z1 := (G.below hb4).r m h59; have z2 := (G.below hb4).al m h59; rw [Nat.mul_comm 3] at z1 z2) | (go_at_call 46; refine (charref_alnum.calls _ _ _ HD).mono ?_; rintro e w3 ⟨rfl, hd1⟩; replace z1 := pw_cell_below hd1.below z1))
            all_goals
              have hg := HGO.out
              rw [if_neg (by rw [HB.out]; decide), ha] at hg
              have hbw := below_then hb.out hb.out.size hb4
            · rename_i hc
              rw [if_pos ⟨h2, by have := beq_iff_eq.1 hc; omega⟩] at hg
              go_ret3
              exact ⟨by rw [HF.out, ← hg]; rfl, hbw⟩
            · rename_i hc h5
              rw [if_neg (by have := beq_eq_false_iff_ne.1 hc; omega), if_pos (by simpa using h5)] at hg
              exact ⟨⟨e - 1, by rw [show ((e - 1 : Nat) : Int) = (e : Int) - 1 by omega], by omega, by omega, Lib.hid hg, Lib.hid hbw⟩, by simp [intOf]; omega⟩
            · rename_i hc h5 h6 h7
              rw [if_neg (by have := beq_eq_false_iff_ne.1 hc; omega), if_neg (by simpa using h5), if_pos ⟨h6, h2, .inl (by omega)⟩] at hg
              go_ret3
              exact ⟨by rw [HF.out, ← hg]; rfl, hbw⟩
            · rename_i hc h5 h6 h7 h8
              rw [if_neg (by have := beq_eq_false_iff_ne.1 hc; omega), if_neg (by simpa using h5), if_pos ⟨h6, h2, h8.imp (fun x => by have := beq_iff_eq.1 x; omega) id⟩] at hg
              go_ret3
              exact ⟨by rw [HF.out, ← hg]; rfl, below_then hbw hbw.size hd1.below⟩
            · rename_i hc h5 h6 h7 h8
              rw [if_neg (by have := beq_eq_false_iff_ne.1 hc; omega), if_neg (by simpa using h5), if_neg (fun x => by rcases x.2.2 with y | y; (have := beq_eq_false_iff_ne.1 h8.1; omega); rw [h8.2] at y; cases y)] at hg
              go_ret3
              exact ⟨by rw [HF.out, ← hg]; rfl, below_then hbw hbw.size hd1.below⟩
            · rename_i hc h5 h6
              rw [if_neg (by have := beq_eq_false_iff_ne.1 hc; omega), if_neg (by simpa using h5), if_neg (fun x => h6 x.1)] at hg
              go_ret3
              exact ⟨by rw [HF.out, ← hg]; rfl, hbw⟩
          · go_wp2_with (first | (go_at_call 47; (try rw [hw]); refine BC.mono ?_; rintro e w4 ⟨rfl, hb4⟩; have z1 := (G.below hb4).r m h59; have z2 := (G.below hb4).al m h59; rw [Nat.mul_comm 3] at z1 z2))
            all_goals
              have hg := HGO.out
              rw [if_neg (by rw [HB.out]; decide), if_neg (fun x => h2 x.1)] at hg
              have hbw := below_then hb.out hb.out.size hb4
            · rename_i h5
              rw [if_pos (by simpa using h5)] at hg
              exact ⟨⟨e - 1, by rw [show ((e - 1 : Nat) : Int) = (e : Int) - 1 by omega], by omega, by omega, Lib.hid hg, Lib.hid hbw⟩, by simp [intOf]; omega⟩
            · rename_i h5 h6
              rw [if_neg (by simpa using h5), if_neg (fun x => h2 x.2.1)] at hg
              go_ret3
              exact ⟨by rw [HF.out, ← hg]; rfl, hbw⟩
            · rename_i h5 h6
              rw [if_neg (by simpa using h5), if_neg (fun x => h6 x.1)] at hg
              go_ret3
              exact ⟨by rw [HF.out, ← hg]; rfl, hbw⟩
      · obtain rfl : e = 1 := by omega
        have hg := hgo.out
        rw [findLoop, if_neg (by omega)] at hg
        have HGO := Lib.hid hg
        clear hg hgo
        go_wp2_with fail
        go_ret3
        exact ⟨by rw [HF.out, ← HGO.out]; rfl, hb.out⟩
end Go.Proofs.YtpfhgolamlnhiaaDoor

set_option linter.unusedVariables false
set_option linter.unusedSimpArgs false
namespace Go.Proofs.YtpfhgolamlnhiaaDoor
open Go.RowKit Go.Proofs.YtpfhgolamlnhiaaDoorW.PrintWords Go.Proofs.YtpfhgolamlnhiaaDoor.XP
set_option maxHeartbeats 8000000 in
set_option maxRecDepth 100000 in
theorem find_calls (s : ByteArray) (attr : Bool) (w : World) (h2 : G2 w) (hs : s.size ≤ 4611686018427387904) :
    Calls Tryd.prog 30 #[.string s, .bool attr] w fun e w' => e = .returned (.tuple #[.int .i32 (findP s attr).1, .int .i64 (findP s attr).2.1, .bool (findP s attr).2.2]) ∧ Below w.heap.size w w' := by
  have HG := Lib.hid h2
  clear h2
  by_cases h0 : s.size = 0
  · obtain rfl : s = ⟨#[]⟩ := ByteArray.ext (Array.size_eq_zero_iff.1 h0)
    rw [show findP ⟨#[]⟩ attr = (0, 0, false) by unfold findP; rw [if_pos (.inl rfl)]]
    go_enter Tryd.func30, Tryd.ntmps30
    go_wp2_with fail
    go_ret3
    exact ⟨rfl, Below.refl _ _⟩
  have hne := ne_list s h0
  have hpos : 0 < s.size := by omega
  have hat := at_get s 0 hpos
  have hnl : s.toList.isEmpty = false := by
    cases e : s.toList
    · exact absurd e hne
    · rfl
  by_cases h38 : s[0].toNat = 38
  case neg =>
    have hb38 : ((s[0].toNat : Int) != 38) = true := by rw [bne_iff_ne]; omega
    have HF := Lib.hid (show findP s attr = (0, 0, false) by unfold findP; rw [if_pos (.inr (by rw [hat]; exact h38))])
    go_enter Tryd.func30, Tryd.ntmps30
    go_wp2_with fail
    go_ret3
    exact ⟨by rw [HF.out]; rfl, Below.refl _ _⟩
  have hb38 : ((s[0].toNat : Int) != 38) = false := by rw [bne_eq_false_iff_eq]; omega
  by_cases hx : Lib.hasPrefix s.data.toList [38, 35] = true
  · exact find_num s attr w HG hs hne hpos hat hnl h38 hb38 hx
  · exact find_named s attr w HG hs hne hpos hat hnl h38 hb38 hx
end Go.Proofs.YtpfhgolamlnhiaaDoor

set_option linter.unusedVariables false
set_option linter.unusedSimpArgs false
namespace Go.Proofs.YtpfhgolamlnhiaaDoor.Bld
open Go.RowKit
set_option maxHeartbeats 4000000 in
set_option maxRecDepth 100000 in
theorem WriteRune (B b : Nat) (bs : List Value) (r : Int) (hr0 : -2147483648 ≤ r) (hr1 : r ≤ 2147483647) (w : World) (h : Lib.IsBuilderF 52 5 B b bs w) (hlen : bs.length + 4 ≤ 140737488355328) (hBw : B ≤ w.heap.size) :
    Calls Tryd.prog 31 #[.pointer (some ⟨b, 0, none⟩), .int .i32 r] w fun e w' => e = .returned (.tuple #[.int .i64 (Lib.runeCells r).length, .nilIface]) ∧ (Lib.BuilderAtF 52 5 B b (.pointer (some ⟨b, 0, none⟩)) (bs ++ Lib.runeCells r) w' ∧ Below B w w' ∧ Lib.OthersKept 5 (some b) w w') := by
  have hk4 := Lib.runeCells_le r
  go_enter Tryd.func31, Tryd.ntmps31
  go_wp2_with (go_at_call 43; refine (copyCheck B b bs _ h).mono ?_)
  rintro e w1 ⟨rfl, h1, hb1, hk1⟩
  obtain ⟨hB, v, hbk, hown, hne⟩ := h1
  obtain ⟨ao, cap, rfl⟩ : ∃ ao cap, v = .slice ao bs.length cap := by
    rcases hown.2 with ⟨hv, h0⟩ | ⟨g, cap, cur, fz, hv, _⟩
    · exact ⟨none, 0, by rw [hv, h0]⟩
    · exact ⟨_, _, hv⟩
  have c0 : w1.cell? ⟨b, 0, none⟩ = some (.pointer (some ⟨b, 0, none⟩)) := by rw [Lib.cell_of_heap hbk]; rfl
  have c1 : w1.cell? ⟨b, 1, none⟩ = some (.slice ao bs.length cap) := by rw [Lib.cell_of_heap hbk]; rfl
  go_wp2_with (go_at_call 50; refine (Tryd.utf8_AppendRune_row B _ bs.length bs r hr0 hr1 _ hown hlen (by have := hb1.size; omega)).mono ?_)
  rintro e w2 ⟨v', rfl, hown', o, hgrow⟩
  have hlt : b < w1.heap.size := by
    rcases Nat.lt_or_ge b w1.heap.size with h' | h'
    · exact h'
    · simp [Array.getElem?_eq_none h'] at hbk
  have hb2 : w2.heap[b]? = some (.cells #[.pointer (some ⟨b, 0, none⟩), .slice ao bs.length cap] 52 (0, 0)) := by
    rw [hgrow.block b (by simp; omega) (fun e => hne e.symm), Lib.alloc_old w1 _ b hlt]
    exact hbk
  have d0 : w2.cell? ⟨b, 0, none⟩ = some (.pointer (some ⟨b, 0, none⟩)) := by rw [Lib.cell_of_heap hb2]; rfl
  have d1 : w2.cell? ⟨b, 1, none⟩ = some (.slice ao bs.length cap) := by rw [Lib.cell_of_heap hb2]; rfl
  have f1 : w2.frozen? ⟨b, 1, none⟩ = false := Lib.frozen_of_heap hb2 1
  obtain ⟨g, cap', rfl⟩ : ∃ g cap', v' = .slice (some ⟨g, 0, none⟩) (bs.length + (Lib.runeCells r).length) cap' := by
    rcases hown'.2 with ⟨_, h0⟩ | ⟨g, cap', cur, fz, hv, _⟩
    · omega
    · exact ⟨g, cap', hv⟩
  go_wp2
  go_ret2
  refine ⟨?_, ?_, ?_, ((hk1.alloc _).grown hgrow (Lib.ownsRowF_kind (hown.alloc _))).setCell ⟨b, 1, none⟩ rfl _⟩
  · have e : ((bs.length : Int) + ((Lib.runeCells r).length : Int) - (bs.length : Int)) = ((Lib.runeCells r).length : Int) := by omega
    simp [e]
  · exact Lib.BuilderAtF.put (T := 52) (e := 5) hB hb2 (bs' := bs ++ Lib.runeCells r) (by simpa using hown') neB5
  · exact ((hb1.alloc (by have := hb1.size; omega) _).grown hgrow (by have := hb1.size; simp; omega) (fun k hk => (hown.lt k hk).1)).setCell (p := ⟨b, 1, none⟩) hB _
end Go.Proofs.YtpfhgolamlnhiaaDoor.Bld

set_option linter.unusedVariables false
set_option linter.unusedSimpArgs false
namespace Go.Proofs.YtpfhgolamlnhiaaDoor
open Go.RowKit Go.Proofs.YtpfhgolamlnhiaaDoorW.PrintWords

def decGo (attr : Bool) : Nat → ByteArray → List UInt8 → Option (List UInt8)
  | 0, _, _ => none
  | k + 1, s, acc =>
    if Lib.indexByte s.data.toList 38 < 0 then wr acc s.data.toList
    else if Lib.indexByte s.data.toList 38 + 1 ≤ s.size then
      (wr acc (s.extract 0 (Lib.indexByte s.data.toList 38).toNat).data.toList).bind fun acc1 =>
        if (findP (s.extract (Lib.indexByte s.data.toList 38).toNat s.size) attr).2.2 = true then
          (if -2147483648 ≤ (findP (s.extract (Lib.indexByte s.data.toList 38).toNat s.size) attr).1 ∧ (findP (s.extract (Lib.indexByte s.data.toList 38).toNat s.size) attr).1 ≤ 2147483647 ∧ 0 ≤ Lib.indexByte s.data.toList 38 + (findP (s.extract (Lib.indexByte s.data.toList 38).toNat s.size) attr).2.1 ∧ Lib.indexByte s.data.toList 38 + (findP (s.extract (Lib.indexByte s.data.toList 38).toNat s.size) attr).2.1 ≤ s.size then
            (wr acc1 (Lib.encodeRune (findP (s.extract (Lib.indexByte s.data.toList 38).toNat s.size) attr).1)).bind fun acc2 => decGo attr k (s.extract (Lib.indexByte s.data.toList 38 + (findP (s.extract (Lib.indexByte s.data.toList 38).toNat s.size) attr).2.1).toNat s.size) acc2
          else none)
        else (wr acc1 [38]).bind fun acc2 => decGo attr k (s.extract (Lib.indexByte s.data.toList 38 + 1).toNat s.size) acc2
    else none

theorem wr_len {acc l r : List UInt8} (h : wr acc l = some r) : r = acc ++ l ∧ acc.length + l.length ≤ 70368744177664 := by
  unfold wr at h
  split at h
  · exact ⟨(Option.some.inj h).symm, ‹_›⟩
  · cases h
theorem rune_any (B b : Nat) (acc r : List UInt8) (c : Int) (w : World) (h : Bl B b acc w) (hB : B ≤ w.heap.size) (h0 : -2147483648 ≤ c) (h1 : c ≤ 2147483647) (hw : wr acc (Lib.encodeRune c) = some r) :
    Calls Tryd.prog 31 #[.pointer (some ⟨b, 0, none⟩), .int .i32 c] w fun e w' => e = .returned (.tuple #[.int .i64 (Lib.runeCells c).length, .nilIface]) ∧ Bl B b r w' ∧ Below B w w' := by
  obtain ⟨rfl, hl⟩ := wr_len hw
  refine (Bld.WriteRune B b _ c h0 h1 w h (by rw [Lib.byteCells_length]; omega) hB).mono ?_
  rintro e w' ⟨rfl, h1, h2, h3⟩
  refine ⟨rfl, ?_, h2⟩
  have e : Lib.byteCells (acc ++ Lib.encodeRune c) = Lib.byteCells acc ++ Lib.runeCells c := by rw [Lib.byteCells_append, Lib.byteCells_encodeRune]
  unfold Bl
  rw [e]
  exact .inr h1
theorem byte_any (B b : Nat) (acc r : List UInt8) (w : World) (h : Bl B b acc w) (hB : B ≤ w.heap.size) (hw : wr acc [38] = some r) :
    Calls Tryd.prog 32 #[.pointer (some ⟨b, 0, none⟩), .int .u8 38] w fun e w' => e = .returned .nilIface ∧ Bl B b r w' ∧ Below B w w' := by
  obtain ⟨rfl, hl⟩ := wr_len hw
  refine (Bld.WriteByte B b _ 38 w h (by rw [Lib.byteCells_length]; omega) hB).mono ?_
  rintro e w' ⟨rfl, h1, h2, h3⟩
  refine ⟨rfl, ?_, h2⟩
  have e : Lib.byteCells (acc ++ [38]) = Lib.byteCells acc ++ [.int .u8 38] := by rw [Lib.byteCells_append]; rfl
  unfold Bl
  rw [e]
  exact .inr h1

set_option maxHeartbeats 8000000 in
set_option maxRecDepth 100000 in
theorem decode_calls (k : Nat) (attr : Bool) (s : ByteArray) (r : List UInt8) (w : World) (h : decGo attr k s [] = some r) (hs : s.size ≤ 4611686018427387904) (h2 : G2 w) :
    Calls Tryd.prog 15 #[.string s, .bool attr] w fun e w' => e = .returned (.string ⟨r.toArray⟩) ∧ Below w.heap.size w w' := by
  have HG := Lib.hid h2
  have HH := Lib.hid h
  clear h2 h
  go_enter Tryd.func15, Tryd.ntmps15
  go_wp2_with fail
  go_loopg [0] k (fun kq v0 wr_ => ∃ (s' : ByteArray) (acc : List UInt8), v0 = .string s' ∧ s'.size ≤ 4611686018427387904 ∧ Hid (decGo attr kq s' acc = some r) ∧ Hid (Bl w.heap.size w.heap.size acc wr_) ∧ Hid (Below w.heap.size w wr_))
  case atStart => exact ⟨s, [], rfl, hs, HH, Lib.hid (Lib.IsBuilderF.of (Lib.fresh_isBuilder _ _ w)), Lib.hid (below_alloc (Below.refl _ _) _)⟩
  case round =>
    obtain ⟨s', acc, rfl, hs', hd, hB, hb⟩ := hrel
    cases gk with
    | zero => have := hd.out; simp [decGo] at this
    | succ k3 =>
      have hsz := hb.out.size
      have hg := hd.out
      rw [decGo] at hg
      clear hd
      have IB := fun (w : World) => Tryd.strings_IndexByte s' 38 w
      rw [show (38 : Int).toNat.toUInt8 = 38 from rfl] at IB
      generalize Lib.indexByte s'.data.toList 38 = ix at *
      by_cases hneg : ix < 0
      · rw [if_pos hneg] at hg
        have HG' := Lib.hid hg
        clear hg
        go_wp2_with (first | (go_at_call 27; refine (IB _).mono ?_; rintro e w1 ⟨rfl, rfl⟩) | (go_at_call 28; refine (write_any _ _ acc _ r _ hB.out hsz HG'.out).mono ?_; rintro e w2 ⟨rfl, hB2, hb2, -⟩) | (go_at_call 29; refine (Tryd.Builder_String_any_k _ _ r _ hB2 (by have := hb2.size; omega)).mono ?_; rintro e w3 ⟨rfl, -, hb3, -⟩))
        go_ret
        exact ⟨rfl, (hb.out.trans hb2).trans hb3⟩
      · rw [if_neg hneg] at hg
        split at hg
        case isFalse => cases hg
        rename_i hi
        obtain ⟨i, rfl⟩ := Int.eq_ofNat_of_zero_le (show 0 ≤ ix by omega)
        simp only [Int.toNat_natCast] at hg
        have hi2 : i ≤ s'.size := by omega
        have hxs : (s'.extract i s'.size).size ≤ 4611686018427387904 := by rw [ByteArray.size_extract]; omega
        have FC := fun (w : World) (h2 : G2 w) => find_calls (s'.extract i s'.size) attr w h2 hxs
        generalize findP (s'.extract i s'.size) attr = p at *
        obtain ⟨pr, pn, pok⟩ := p
        obtain ⟨acc1, h1, hg⟩ := Option.bind_eq_some_iff.1 hg
        have H1 := Lib.hid h1
        clear h1
        dsimp only at hg FC
        cases pok
        · rw [if_neg (by decide)] at hg
          obtain ⟨acc2, h2, hg⟩ := Option.bind_eq_some_iff.1 hg
          have H2 := Lib.hid h2
          have H3 := Lib.hid hg
          clear h2 hg hneg
          go_wp2_with (first | (go_at_call 27; refine (IB _).mono ?_; rintro e w1 ⟨rfl, rfl⟩) | (go_at_call 28; refine (write_any _ _ acc _ acc1 _ hB.out hsz H1.out).mono ?_; rintro e w2 ⟨rfl, hB2, hb2, -⟩) | (go_at_call 30; refine (FC _ (HG.out.below (hb.out.trans hb2))).mono ?_; rintro e w3 ⟨rfl, hb3⟩; have hB3 := hB2.below hb3) | (go_at_call 32; refine (byte_any _ _ acc1 acc2 _ hB3 (by have := hb2.size; have := hb3.size; omega) H2.out).mono ?_; rintro e w4 ⟨rfl, hB4, hb4⟩))
          have hb4' := ((hb.out.trans hb2).trans (below_then (Below.refl _ _) (hb.out.trans hb2).size hb3)).trans hb4
          go_roundg k3
          case measure => omega
          case rel => exact ⟨_, acc2, rfl, by rw [ByteArray.size_extract]; omega, H3, Lib.hid hB4, Lib.hid hb4'⟩
        · rw [if_pos rfl] at hg
          split at hg
          case isFalse => cases hg
          rename_i hr
          obtain ⟨hr0, hr1, hr2, hr3⟩ := hr
          obtain ⟨acc2, h2, hg⟩ := Option.bind_eq_some_iff.1 hg
          have H2 := Lib.hid h2
          have H3 := Lib.hid hg
          clear h2 hg hneg
          go_wp2_with (first | (go_at_call 27; refine (IB _).mono ?_; rintro e w1 ⟨rfl, rfl⟩) | (go_at_call 28; refine (write_any _ _ acc _ acc1 _ hB.out hsz H1.out).mono ?_; rintro e w2 ⟨rfl, hB2, hb2, -⟩) | (go_at_call 30; refine (FC _ (HG.out.below (hb.out.trans hb2))).mono ?_; rintro e w3 ⟨rfl, hb3⟩; have hB3 := hB2.below hb3) | (go_at_call 31; refine (rune_any _ _ acc1 acc2 pr _ hB3 (by have := hb2.size; have := hb3.size; omega) hr0 hr1 H2.out).mono ?_; rintro e w4 ⟨rfl, hB4, hb4⟩))
          have hb4' := ((hb.out.trans hb2).trans (below_then (Below.refl _ _) (hb.out.trans hb2).size hb3)).trans hb4
          go_roundg k3
          case measure => omega
          case rel => exact ⟨_, acc2, rfl, by rw [ByteArray.size_extract]; omega, H3, Lib.hid hB4, Lib.hid hb4'⟩
end Go.Proofs.YtpfhgolamlnhiaaDoor

set_option linter.unusedVariables false
namespace Go.Proofs.YtpfhgolamlnhiaaDoor
open Go.RowKit Go.Proofs.YtpfhgolamlnhiaaDoorW.PrintWords

theorem decGo_mono (attr : Bool) : ∀ (k : Nat) (s : ByteArray) (acc : List UInt8), LeO (decGo attr k s acc) (decGo attr (k + 1) s acc)
  | 0, s, acc => LeO.none _
  | k + 1, s, acc => by
    rw [decGo, decGo]
    refine LeO.ite (LeO.refl _) (LeO.ite (LeO.bind (LeO.refl _) (fun a => LeO.ite (LeO.ite (LeO.bind (LeO.refl _) (fun b => decGo_mono attr k _ _)) (LeO.refl _)) (LeO.bind (LeO.refl _) (fun b => decGo_mono attr k _ _)))) (LeO.refl _))
def x_Decode.f (k : Nat) (a0 : ByteArray) (a1 : Bool) : Option ByteArray := if a0.size ≤ 4611686018427387904 then (decGo a1 k a0 []).bind fun l => some ⟨l.toArray⟩ else none
theorem x_Decode.mono : ∀ (a0 : ByteArray) (a1 : Bool) (k : Nat), LeO (x_Decode.f k a0 a1) (x_Decode.f (k + 1) a0 a1) := fun a0 a1 k =>
  LeO.ite (LeO.bind (decGo_mono a1 k a0 []) (fun _ => LeO.refl _)) (LeO.refl _)
theorem x_Decode.calls (k : Nat) (a0 : ByteArray) (a1 : Bool) (r : ByteArray) (w : World) (h : x_Decode.f k a0 a1 = some r) (hG2 : G2 w) :
    Calls Tryd.prog 15 #[.string a0, .bool a1] w fun e w' => e = .returned (.string r) ∧ Below w.heap.size w w' := by
  unfold x_Decode.f at h
  split at h
  · obtain ⟨l, hl, h⟩ := Option.bind_eq_some_iff.1 h
    obtain rfl := Option.some.inj h
    exact decode_calls k a1 a0 l w hl ‹_› hG2
  · cases h
end Go.Proofs.YtpfhgolamlnhiaaDoor
