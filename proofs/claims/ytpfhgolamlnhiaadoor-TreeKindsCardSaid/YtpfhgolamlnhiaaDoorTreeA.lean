/- tree.Build as a plain function. -/
import Derived.Test.YtpfhgolamlnhiaaDoorXA
import Derived.Deep.RegionLaw
set_option linter.unusedVariables false
set_option linter.unusedSimpArgs false
namespace Go.Proofs.YtpfhgolamlnhiaaDoor
open Go.RowKit Go.Proofs.YtpfhgolamlnhiaaDoorW.PrintWords Go.Proofs.YtpfhgolamlnhiaaDoor.XT Go.Proofs.YtpfhgolamlnhiaaDoor.XA

abbrev NodeD := S37
structure Bs where
  t : List NodeD
  op : List Int
def wP : List UInt8 := [112]
def wLi : List UInt8 := [108, 105]
def wA : List UInt8 := [97]
def topI (b : Bs) : Int := rd b.op ((b.op.length : Int) - 1)
def topOk (b : Bs) : Prop := 0 < b.op.length ∧ 0 ≤ topI b ∧ topI b < b.t.length
instance (b : Bs) : Decidable (topOk b) := by unfold topOk; infer_instance
def topN (b : Bs) : NodeD := rd_T37 b.t (topI b)
def topName (b : Bs) : Option ByteArray := if topOk b then some (topN b).f1 else none
def popB (b : Bs) : Bs := ⟨b.t, b.op.take (b.op.length - 1)⟩
def addB (b : Bs) (n : NodeD) : Option (Int × Bs) :=
  if 16384 ≤ b.t.length then some (3, b)
  else if topOk b ∧ (topN b).f5.length < 16384 then
    some (0, ⟨b.t.set (topI b).toNat { topN b with f5 := (topN b).f5 ++ [(b.t.length : Int)] } ++ [{ n with f4 := topI b }], b.op⟩)
  else none
def textB (b : Bs) (data : ByteArray) : Option (Int × Bs) :=
  if data.toList.isEmpty = true then some (0, b)
  else if topOk b then
    if 0 < (topN b).f5.length then
      let j := rd (topN b).f5 (((topN b).f5.length : Int) - 1)
      if 0 ≤ j ∧ j < b.t.length then
        let last := rd_T37 b.t j
        if last.f0 = 2 then
          if last.f3.size + data.size ≤ 4611686018427387904 then some (0, ⟨b.t.set j.toNat { last with f3 := last.f3 ++ data }, b.op⟩) else none
        else addB b ⟨2, ⟨#[]⟩, [], data, 0, []⟩
      else none
    else addB b ⟨2, ⟨#[]⟩, [], data, 0, []⟩
  else none
def nameAt (b : Bs) (i : Int) : Option ByteArray :=
  if 0 ≤ i ∧ i < b.op.length ∧ 0 ≤ rd b.op i ∧ rd b.op i < b.t.length then some (rd_T37 b.t (rd b.op i)).f1 else none
/-- The search for the item that a new one ends: false: there is none to end. -/
def itemFind (k : Nat) (b : Bs) : Nat → Option Bool
  | 0 => some true
  | n + 1 => (nameAt b (n + 1 : Nat)).bind fun nm => if nm.toList = wLi then some true else (tree_wall.f k nm).bind fun w => if w = true then some false else if n = 0 then some false else itemFind k b n
def popPs : Nat → Bs → Option Bs
  | 0, _ => none
  | f + 1, b => (topName b).bind fun nm => if nm.toList = wP then popPs f (popB b) else some b
def itemB (k : Nat) (b : Bs) : Option (Int × Bs) :=
  if b.op.length = 0 then none else
  (itemFind k b (b.op.length - 1)).bind fun g => if g = false then some (0, b) else if b.op.length = 1 then some (0, b) else
    (popPs k b).bind fun b1 => (topName b1).bind fun nm => if nm.toList = wLi then some (0, popB b1) else some (51, b1)
def hasGo (t : List NodeD) (nm : List UInt8) : List Int → Option Bool
  | [] => some false
  | i :: l => if 0 ≤ i ∧ i < t.length then (if (rd_T37 t i).f1.toList = nm then some true else hasGo t nm l) else none
def hasB (b : Bs) (nm : List UInt8) : Option Bool := if b.op.length = 0 ∨ b.t.length = 0 then none else hasGo b.t nm (b.op.drop 1)
/-- The element itself: behind what its kind closes. -/
def putB (k : Nat) (kd : Int) (b : Bs) (tok : S95) : Option (Int × Bs) :=
  if 65536 < tok.f2.length then none else
  (if kd = 4 then (topName b).bind fun nm => (tree_Kind.f k nm).bind fun q => some (decide (q = 4)) else some false).bind fun h4 =>
  if h4 = true then some (51, b) else
  (if kd = 6 then hasB b wA else some false).bind fun ha =>
  if ha = true then some (51, b) else if 200 < b.op.length then some (52, b) else
  (addB b ⟨1, tok.f1, tok.f2, ⟨#[]⟩, 0, []⟩).bind fun r =>
    if r.1 = 0 ∧ kd < 7 then some (0, ⟨r.2.t, r.2.op ++ [(r.2.t.length : Int) - 1]⟩) else some r
def startB (k : Nat) (b : Bs) (tok : S95) : Option (Int × Bs) :=
  (tree_Kind.f k tok.f1).bind fun kd =>
  if kd = 0 then some (50, b) else if tok.f3 = true ∧ kd < 7 then some (51, b) else
  (if kd = 3 then itemB k b else some (0, b)).bind fun r =>
  if r.1 ≠ 0 then some r else
  (tree_ends.f kd).bind fun en =>
  (if en = true then hasB r.2 wP else some false).bind fun hp =>
  if hp = true then (topName r.2).bind fun nm => if nm.toList = wP then putB k kd (popB r.2) tok else some (51, r.2) else putB k kd r.2 tok
def endPop (kd : Int) : Nat → Bs → Option Bs
  | 0, _ => none
  | f + 1, b => (topName b).bind fun nm => if kd = 1 ∧ (nm.toList = wP ∨ nm.toList = wLi) ∨ kd = 3 ∧ nm.toList = wP then endPop kd f (popB b) else some b
def endB (k : Nat) (b : Bs) (name : ByteArray) : Option (Int × Bs) :=
  (tree_Kind.f k name).bind fun kd => if kd = 0 then some (50, b) else if 7 ≤ kd then some (51, b) else
  (endPop kd k b).bind fun b1 => (topName b1).bind fun nm => if nm.toList = name.toList then some (0, popB b1) else some (51, b1)
def tokB (k : Nat) (b : Bs) (i : Int) (tok : S95) : Option (Int × Bs) :=
  if tok.f0 = 1 then startB k b tok else if tok.f0 = 2 then endB k b tok.f1 else if tok.f0 = 3 then textB b tok.f4 else if tok.f0 = 5 ∧ 0 < i then some (51, b) else some (0, b)
def buildGo (k : Nat) : List (S95) → Int → Bs → Option (List NodeD × Int × Int)
  | [], _, b => some (b.t, 0, 0)
  | tok :: l, i, b => (tokB k b i tok).bind fun r => if r.1 = 0 then buildGo k l (i + 1) r.2 else some ([], r.1, i)
def bs0 : Bs := ⟨[⟨0, ⟨#[]⟩, [], ⟨#[]⟩, -1, []⟩], [0]⟩
def buildK (k : Nat) (l : List (S95)) : Option (List NodeD × Int × Int) := buildGo k l 0 bs0
end Go.Proofs.YtpfhgolamlnhiaaDoor

set_option linter.unusedVariables false
set_option linter.unusedSimpArgs false
namespace Go.Proofs.YtpfhgolamlnhiaaDoor
open Go.RowKit Go.Proofs.YtpfhgolamlnhiaaDoorW.PrintWords Go.Proofs.YtpfhgolamlnhiaaDoor.XT Go.Proofs.YtpfhgolamlnhiaaDoor.XA

/-- A builder's box, its nodes and what is open: rows of the call's own (from block B on). -/
structure BdAt (B g : Nat) (b : Bs) (vt vo : Value) (w : World) : Prop where
  box : w.heap[g]? = some (.cells #[vt, vo, .slice none 0 0] 93 (0, 0))
  t : Kd.S k37 37 w B (fun k => some k ≠ vo.ownBlock) vt b.t
  op : Kd.Q (Kd.int .i64) 3 w B (fun _ => True) vo b.op
theorem BdAt.below {B g : Nat} {b : Bs} {vt vo : Value} {w w' : World} (h : BdAt B g b vt vo w) (hb : Below w.heap.size w w') : BdAt B g b vt vo w' :=
  ⟨blk_below h.box hb, Kd.S_below h.t hb, Kd.Q_below h.op hb⟩
theorem BdAt.cell0 {B g : Nat} {b : Bs} {vt vo : Value} {w : World} (h : BdAt B g b vt vo w) : w.cell? ⟨g, 0, none⟩ = some vt := by rw [blk_cell h.box]; rfl
theorem BdAt.cell1 {B g : Nat} {b : Bs} {vt vo : Value} {w : World} (h : BdAt B g b vt vo w) : w.cell? ⟨g, 1, none⟩ = some vo := by rw [blk_cell h.box]; rfl
theorem BdAt.frz {B g : Nat} {b : Bs} {vt vo : Value} {w : World} (h : BdAt B g b vt vo w) (j : Nat) : w.frozen? ⟨g, j, none⟩ = false := blk_frozen h.box j
/-- The nodes' row. -/
theorem BdAt.tform {B g : Nat} {b : Bs} {vt vo : Value} {w : World} (h : BdAt B g b vt vo w) (hp : 0 < b.t.length) : ∃ gt cap, vt = .slice (some ⟨gt, 0, none⟩) b.t.length cap := by
  obtain ⟨gt, cap, rfl, -⟩ := Kd.S_form h.t hp
  exact ⟨gt, cap, rfl⟩
theorem BdAt.oform {B g : Nat} {b : Bs} {vt vo : Value} {w : World} (h : BdAt B g b vt vo w) (hp : 0 < b.op.length) : ∃ go oo cap, vo = .slice (some ⟨go, oo, none⟩) b.op.length cap := by
  obtain ⟨go, oo, cap, rfl, -⟩ := Kd.Q_form h.op hp
  exact ⟨go, oo, cap, rfl⟩
theorem BdAt.ocell {B g : Nat} {b : Bs} {vt : Value} {go oo cap : Nat} {w : World} (h : BdAt B g b vt (.slice (some ⟨go, oo, none⟩) b.op.length cap) w) (i : Int) (h0 : 0 ≤ i) (h1 : i < b.op.length) : w.cell? ⟨go, oo + i.toNat, none⟩ = some (.int .i64 (rd b.op i)) := (Kd.Q_cell 0 h.op i h0 (by omega)).1

set_option maxHeartbeats 1000000 in
set_option maxRecDepth 100000 in
theorem top_calls (B g gt cap : Nat) (b : Bs) (vo : Value) (w : World) (h : BdAt B g b (.slice (some ⟨gt, 0, none⟩) b.t.length cap) vo w) (hok : topOk b) :
    Calls Tryd.prog 77 #[.pointer (some ⟨g, 0, none⟩)] w fun e w' => e = .returned (.pointer (some ⟨gt, (topI b).toNat * 6, none⟩)) ∧ Drawn0 w w' := by
  obtain ⟨go, oo, co, rfl⟩ := h.oform hok.1
  have c0 := h.cell0
  have c1 := h.cell1
  obtain ⟨k1, k2, k3⟩ := hok
  have c2 := h.ocell ((b.op.length : Int) - 1) (by omega) (by omega)
  change w.cell? _ = some (.int .i64 (topI b)) at c2
  have e2 : ((b.op.length : Int) - 1).toNat = b.op.length - 1 := by omega
  rw [e2] at c2
  generalize topI b = T at *
  have hl : b.op.length ≤ 9223372036854775807 := (Kd.Q_reads' h.op).2.2.2.1
  have hl2 : b.t.length ≤ 9223372036854775807 := (Kd.S_reads' h.t).2.2.2.1
  clear h
  generalize b.op.length = L at *
  generalize b.t.length = M at *
  go_enter Tryd.func77, Tryd.ntmps77
  go_wp2_with fail
  go_quiet (fail)
  go_wp2
  go_ret
  exact ⟨rfl, ⟨⟨_, rfl⟩⟩⟩

def BdEx (B g : Nat) (b : Bs) (w : World) : Prop := ∃ vt vo, BdAt B g b vt vo w
theorem BdEx.below {B g : Nat} {b : Bs} {w w' : World} (h : BdEx B g b w) (hb : Below w.heap.size w w') : BdEx B g b w' := by
  obtain ⟨vt, vo, h⟩ := h
  exact ⟨vt, vo, h.below hb⟩
theorem ne_E {q t : Nat} {l : List Nat} (h : ∀ q, q ∈ l → q ≠ t) (hq : q ∈ l) : q ≠ t := h q hq
theorem tE : ∀ q, q ∈ (37 : Nat) :: (k37).E → q ≠ 93 := by decide
theorem oE : ∀ q, q ∈ (3 : Nat) :: (Kd.int .i64).E → q ≠ 93 := by decide
/-- What is open, cut by one. -/
theorem BdAt.popped {B g go oo co : Nat} {b : Bs} {vt : Value} {w : World} (h : BdAt B g b vt (.slice (some ⟨go, oo, none⟩) b.op.length co) w) :
    BdAt B g (popB b) vt (.slice (some ⟨go, oo, none⟩) (b.op.length - 1) co) (w.setCell ⟨g, 1, none⟩ (.slice (some ⟨go, oo, none⟩) (b.op.length - 1) co)) := by
  refine ⟨blk_put h.box 1 _ rfl, ?_, ?_⟩
  · exact Kd.S_mono (Kd.S_set h.t h.box tE 1 _) (fun k hk => by simpa [Value.ownBlock] using hk)
  · exact Kd.Q_set (Kd.Q_take h.op (by omega)) h.box oE 1 _
set_option maxHeartbeats 1000000 in
set_option maxRecDepth 100000 in
theorem pop_calls (B g : Nat) (b : Bs) (w0 w : World) (h : BdEx B g b w) (hp : 0 < b.op.length) (hb : Below B w0 w) (hg : B ≤ g) :
    Calls Tryd.prog 78 #[.pointer (some ⟨g, 0, none⟩)] w fun e w' => e = .returned (.tuple #[]) ∧ BdEx B g (popB b) w' ∧ Below B w0 w' ∧ KeepBut w w' g none := by
  obtain ⟨vt, vo, h⟩ := h
  obtain ⟨go, oo, co, rfl⟩ := h.oform hp
  have c1 := h.cell1
  have f1 := h.frz 1
  have e2 : ((b.op.length : Int) - 1).toNat = b.op.length - 1 := by omega
  have hl : b.op.length ≤ 9223372036854775807 := (Kd.Q_reads' h.op).2.2.2.1
  have hlc : b.op.length ≤ co := (Kd.Q_reads' h.op).2.1
  have HP := Lib.hid h.popped
  clear h
  generalize b.op.length = L at *
  go_enter Tryd.func78, Tryd.ntmps78
  go_wp2_with fail
  have b0 : (1 : Int) ≤ (L : Int) := by omega
  have b1 : (L : Int) - 1 ≤ (co : Int) := by omega
  have hw : IntKind.i64.wrap ((L : Int) - 1) = (L : Int) - 1 := IntWalk.i64_in _ (by omega)
  go_region_law (fail)
  all_goals
    go_end0
    exact ⟨rfl, ⟨vt, _, HP.out.below (Below.drew (Below.refl _ _))⟩, Below.drew (hb.setCell hg _), keep_drew ((KeepBut.refl w g none).set_ 1 _)⟩
end Go.Proofs.YtpfhgolamlnhiaaDoor
