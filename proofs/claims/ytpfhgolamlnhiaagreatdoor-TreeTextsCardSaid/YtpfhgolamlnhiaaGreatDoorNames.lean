/- The tables of package charref, and what the walks ask of them. -/
import Derived.Test.YtpfhgolamlnhiaaGreatDoorProg
import Derived.Below
import Derived.RowKit
namespace Go.Proofs.YtpfhgolamlnhiaaGreatDoor
open Go.RowKit
structure Nm where
  s : ByteArray
  r : Int
  al : Bool
def nm : List Nm :=
  [⟨⟨#[65, 77, 80]⟩, 38, true⟩,
   ⟨⟨#[67, 79, 80, 89]⟩, 169, true⟩,
   ⟨⟨#[71, 84]⟩, 62, true⟩,
   ⟨⟨#[76, 84]⟩, 60, true⟩,
   ⟨⟨#[81, 85, 79, 84]⟩, 34, true⟩,
   ⟨⟨#[82, 69, 71]⟩, 174, true⟩,
   ⟨⟨#[97, 109, 112]⟩, 38, true⟩,
   ⟨⟨#[97, 112, 111, 115]⟩, 39, false⟩,
   ⟨⟨#[98, 117, 108, 108]⟩, 8226, false⟩,
   ⟨⟨#[99, 101, 110, 116]⟩, 162, true⟩,
   ⟨⟨#[99, 111, 112, 121]⟩, 169, true⟩,
   ⟨⟨#[100, 97, 114, 114]⟩, 8595, false⟩,
   ⟨⟨#[100, 101, 103]⟩, 176, true⟩,
   ⟨⟨#[100, 105, 118, 105, 100, 101]⟩, 247, true⟩,
   ⟨⟨#[101, 109, 115, 112]⟩, 8195, false⟩,
   ⟨⟨#[101, 110, 115, 112]⟩, 8194, false⟩,
   ⟨⟨#[101, 117, 114, 111]⟩, 8364, false⟩,
   ⟨⟨#[103, 101]⟩, 8805, false⟩,
   ⟨⟨#[103, 116]⟩, 62, true⟩,
   ⟨⟨#[104, 101, 108, 108, 105, 112]⟩, 8230, false⟩,
   ⟨⟨#[105, 110]⟩, 8712, false⟩,
   ⟨⟨#[105, 110, 102, 105, 110]⟩, 8734, false⟩,
   ⟨⟨#[108, 97, 110, 103]⟩, 10216, false⟩,
   ⟨⟨#[108, 97, 113, 117, 111]⟩, 171, true⟩,
   ⟨⟨#[108, 97, 114, 114]⟩, 8592, false⟩,
   ⟨⟨#[108, 100, 113, 117, 111]⟩, 8220, false⟩,
   ⟨⟨#[108, 101]⟩, 8804, false⟩,
   ⟨⟨#[108, 114, 109]⟩, 8206, false⟩,
   ⟨⟨#[108, 115, 97, 113, 117, 111]⟩, 8249, false⟩,
   ⟨⟨#[108, 115, 113, 117, 111]⟩, 8216, false⟩,
   ⟨⟨#[108, 116]⟩, 60, true⟩,
   ⟨⟨#[109, 100, 97, 115, 104]⟩, 8212, false⟩,
   ⟨⟨#[109, 105, 100, 100, 111, 116]⟩, 183, true⟩,
   ⟨⟨#[109, 105, 110, 117, 115]⟩, 8722, false⟩,
   ⟨⟨#[110, 98, 115, 112]⟩, 160, true⟩,
   ⟨⟨#[110, 100, 97, 115, 104]⟩, 8211, false⟩,
   ⟨⟨#[110, 101]⟩, 8800, false⟩,
   ⟨⟨#[110, 111, 116]⟩, 172, true⟩,
   ⟨⟨#[110, 111, 116, 105, 110]⟩, 8713, false⟩,
   ⟨⟨#[112, 97, 114, 97]⟩, 182, true⟩,
   ⟨⟨#[112, 108, 117, 115, 109, 110]⟩, 177, true⟩,
   ⟨⟨#[112, 111, 117, 110, 100]⟩, 163, true⟩,
   ⟨⟨#[113, 117, 111, 116]⟩, 34, true⟩,
   ⟨⟨#[114, 97, 110, 103]⟩, 10217, false⟩,
   ⟨⟨#[114, 97, 113, 117, 111]⟩, 187, true⟩,
   ⟨⟨#[114, 97, 114, 114]⟩, 8594, false⟩,
   ⟨⟨#[114, 100, 113, 117, 111]⟩, 8221, false⟩,
   ⟨⟨#[114, 101, 103]⟩, 174, true⟩,
   ⟨⟨#[114, 108, 109]⟩, 8207, false⟩,
   ⟨⟨#[114, 115, 97, 113, 117, 111]⟩, 8250, false⟩,
   ⟨⟨#[114, 115, 113, 117, 111]⟩, 8217, false⟩,
   ⟨⟨#[115, 101, 99, 116]⟩, 167, true⟩,
   ⟨⟨#[115, 104, 121]⟩, 173, true⟩,
   ⟨⟨#[116, 104, 105, 110, 115, 112]⟩, 8201, false⟩,
   ⟨⟨#[116, 105, 109, 101, 115]⟩, 215, true⟩,
   ⟨⟨#[117, 97, 114, 114]⟩, 8593, false⟩,
   ⟨⟨#[121, 101, 110]⟩, 165, true⟩,
   ⟨⟨#[122, 119, 106]⟩, 8205, false⟩,
   ⟨⟨#[122, 119, 110, 106]⟩, 8204, false⟩]
def nmAt (i : Nat) : Nm := nm.getD i ⟨⟨#[]⟩, 0, false⟩
def othT : List Int := [8364, 0, 8218, 402, 8222, 8230, 8224, 8225, 710, 8240, 352, 8249, 338, 0, 381, 0, 0, 8216, 8217, 8220, 8221, 8226, 8211, 8212, 732, 8482, 353, 8250, 339, 0, 382, 376]
def othAt (i : Nat) : Int := othT.getD i 0
/-- The two tables stand in memory; the search's bound is some number. -/
structure G2 (w : World) : Prop where
  s : ∀ i, i < 59 → w.cell? ⟨3, 3 * i, none⟩ = some (.string (nmAt i).s)
  r : ∀ i, i < 59 → w.cell? ⟨3, 3 * i + 1, none⟩ = some (.int .i32 (nmAt i).r)
  al : ∀ i, i < 59 → w.cell? ⟨3, 3 * i + 2, none⟩ = some (.bool (nmAt i).al)
  oth : ∀ i, i < 32 → w.cell? ⟨4, i, none⟩ = some (.int .i32 (othAt i))
  ml : ∃ m : Int, w.cell? ⟨2, 0, none⟩ = some (.int .i64 m)
theorem cell_below {w w' : World} {a : Addr} {v : Value} (hb : Below w.heap.size w w') (h : w.cell? a = some v) : w'.cell? a = some v := by
  have hlt : a.block < w.heap.size := by
    rcases Nat.lt_or_ge a.block w.heap.size with hl | hl
    · exact hl
    · unfold World.cell? at h; rw [Array.getElem?_eq_none hl] at h; cases h
  have e := hb.block a.block hlt
  unfold World.cell? at *
  rw [e]; exact h
theorem G2.below {w w' : World} (h : G2 w) (hb : Below w.heap.size w w') : G2 w' := ⟨fun i hi => cell_below hb (h.s i hi), fun i hi => cell_below hb (h.r i hi), fun i hi => cell_below hb (h.al i hi), fun i hi => cell_below hb (h.oth i hi), let ⟨m, hm⟩ := h.ml; ⟨m, cell_below hb hm⟩⟩
end Go.Proofs.YtpfhgolamlnhiaaGreatDoor
