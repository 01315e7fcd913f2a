/- tree.Build as a plain function. -/
import Derived.Test.YtpfhgolamlnhiaaGreatDoorXA
import Derived.Deep.RegionLaw
import Derived.Test.YtpfhgolamlnhiaaGreatDoorWLast
import Derived.Test.YtpfhgolamlnhiaaGreatDoorWMore
set_option linter.unusedVariables false
set_option linter.unusedSimpArgs false
namespace Go.Proofs.YtpfhgolamlnhiaaGreatDoor
open Go.RowKit Go.Proofs.YtpfhgolamlnhiaaGreatDoorW.PrintWords Go.Proofs.YtpfhgolamlnhiaaGreatDoor.XT Go.Proofs.YtpfhgolamlnhiaaGreatDoor.XA

abbrev NodeD := S38
structure Bs where
  t : List NodeD
  op : List Int
def wP : List UInt8 := [112]
def wLi : List UInt8 := [108, 105]
def wA : List UInt8 := [97]
def topI (b : Bs) : Int := rd b.op ((b.op.length : Int) - 1)
def topOk (b : Bs) : Prop := 0 < b.op.length ∧ 0 ≤ topI b ∧ topI b < b.t.length
instance (b : Bs) : Decidable (topOk b) := by unfold topOk; infer_instance
def topN (b : Bs) : NodeD := rd_T38 b.t (topI b)
def topName (b : Bs) : Option ByteArray := if topOk b then some (topN b).f1 else none
def popB (b : Bs) : Bs := ⟨b.t, b.op.take (b.op.length - 1)⟩
def addB (b : Bs) (n : NodeD) : Option (Int × Bs) :=
  if 16384 ≤ b.t.length then some (3, b)
  else if topOk b ∧ (topN b).f5.length < 16384 then
    some (0, ⟨b.t.set (topI b).toNat { topN b with f5 := (topN b).f5 ++ [(b.t.length : Int)] } ++ [{ n with f4 := topI b }], b.op⟩)
  else none
def textB (b : Bs) (data : ByteArray) : Option (Int × Bs) :=
  if data.toList.isEmpty = true then some (0, b)
  else if topOk b then
    if 0 < (topN b).f5.length then
      let j := rd (topN b).f5 (((topN b).f5.length : Int) - 1)
      if 0 ≤ j ∧ j < b.t.length then
        let last := rd_T38 b.t j
        if last.f0 = 2 then
          if last.f3.size + data.size ≤ 4611686018427387904 then some (0, ⟨b.t.set j.toNat { last with f3 := last.f3 ++ data }, b.op⟩) else none
        else addB b ⟨2, ⟨#[]⟩, [], data, 0, []⟩
      else none
    else addB b ⟨2, ⟨#[]⟩, [], data, 0, []⟩
  else none
def nameAt (b : Bs) (i : Int) : Option ByteArray :=
  if 0 ≤ i ∧ i < b.op.length ∧ 0 ≤ rd b.op i ∧ rd b.op i < b.t.length then some (rd_T38 b.t (rd b.op i)).f1 else none
/-- The search for the item that a new one ends: false: there is none to end. -/
def itemFind (k : Nat) (b : Bs) : Nat → Option Bool
  | 0 => some true
  | n + 1 => (nameAt b (n + 1 : Nat)).bind fun nm => if nm.toList = wLi then some true else (tree_wall.f k nm).bind fun w => if w = true then some false else if n = 0 then some false else itemFind k b n
def popPs : Nat → Bs → Option Bs
  | 0, _ => none
  | f + 1, b => (topName b).bind fun nm => if nm.toList = wP then popPs f (popB b) else some b
def itemB (k : Nat) (b : Bs) : Option (Int × Bs) :=
  if b.op.length = 0 then none else
  (itemFind k b (b.op.length - 1)).bind fun g => if g = false then some (0, b) else if b.op.length = 1 then some (0, b) else
    (popPs k b).bind fun b1 => (topName b1).bind fun nm => if nm.toList = wLi then some (0, popB b1) else some (51, b1)
def hasGo (t : List NodeD) (nm : List UInt8) : List Int → Option Bool
  | [] => some false
  | i :: l => if 0 ≤ i ∧ i < t.length then (if (rd_T38 t i).f1.toList = nm then some true else hasGo t nm l) else none
def hasB (b : Bs) (nm : List UInt8) : Option Bool := if b.op.length = 0 ∨ b.t.length = 0 then none else hasGo b.t nm (b.op.drop 1)
/-- The element itself: behind what its kind closes. -/
def putB (k : Nat) (kd : Int) (b : Bs) (tok : S25) : Option (Int × Bs) :=
  if 65536 < tok.f2.length then none else
  (if kd = 4 then (topName b).bind fun nm => (tree_Kind.f k nm).bind fun q => some (decide (q = 4)) else some false).bind fun h4 =>
  if h4 = true then some (51, b) else
  (if kd = 6 then hasB b wA else some false).bind fun ha =>
  if ha = true then some (51, b) else if 200 < b.op.length then some (52, b) else
  (addB b ⟨1, tok.f1, tok.f2, ⟨#[]⟩, 0, []⟩).bind fun r =>
    if r.1 = 0 ∧ kd < 7 then some (0, ⟨r.2.t, r.2.op ++ [(r.2.t.length : Int) - 1]⟩) else some r
def startB (k : Nat) (b : Bs) (tok : S25) : Option (Int × Bs) :=
  (tree_Kind.f k tok.f1).bind fun kd =>
  if kd = 0 then some (50, b) else if tok.f3 = true ∧ kd < 7 then some (51, b) else
  (if kd = 3 then itemB k b else some (0, b)).bind fun r =>
  if r.1 ≠ 0 then some r else
  (tree_ends.f kd).bind fun en =>
  (if en = true then hasB r.2 wP else some false).bind fun hp =>
  if hp = true then (topName r.2).bind fun nm => if nm.toList = wP then putB k kd (popB r.2) tok else some (51, r.2) else putB k kd r.2 tok
def endPop (kd : Int) : Nat → Bs → Option Bs
  | 0, _ => none
  | f + 1, b => (topName b).bind fun nm => if kd = 1 ∧ (nm.toList = wP ∨ nm.toList = wLi) ∨ kd = 3 ∧ nm.toList = wP then endPop kd f (popB b) else some b
def endB (k : Nat) (b : Bs) (name : ByteArray) : Option (Int × Bs) :=
  (tree_Kind.f k name).bind fun kd => if kd = 0 then some (50, b) else if 7 ≤ kd then some (51, b) else
  (endPop kd k b).bind fun b1 => (topName b1).bind fun nm => if nm.toList = name.toList then some (0, popB b1) else some (51, b1)
def tokB (k : Nat) (b : Bs) (i : Int) (tok : S25) : Option (Int × Bs) :=
  if tok.f0 = 1 then startB k b tok else if tok.f0 = 2 then endB k b tok.f1 else if tok.f0 = 3 then textB b tok.f4 else if tok.f0 = 5 ∧ 0 < i then some (51, b) else some (0, b)
def buildGo (k : Nat) : List (S25) → Int → Bs → Option (List NodeD × Int × Int)
  | [], _, b => some (b.t, 0, 0)
  | tok :: l, i, b => (tokB k b i tok).bind fun r => if r.1 = 0 then buildGo k l (i + 1) r.2 else some ([], r.1, i)
def bs0 : Bs := ⟨[⟨0, ⟨#[]⟩, [], ⟨#[]⟩, -1, []⟩], [0]⟩
def buildK (k : Nat) (l : List (S25)) : Option (List NodeD × Int × Int) := buildGo k l 0 bs0
end Go.Proofs.YtpfhgolamlnhiaaGreatDoor

set_option linter.unusedVariables false
set_option linter.unusedSimpArgs false
namespace Go.Proofs.YtpfhgolamlnhiaaGreatDoor
open Go.RowKit Go.Proofs.YtpfhgolamlnhiaaGreatDoorW.PrintWords Go.Proofs.YtpfhgolamlnhiaaGreatDoor.XT Go.Proofs.YtpfhgolamlnhiaaGreatDoor.XA

/-- A builder's box, its nodes and what is open: rows of the call's own (from block B on). -/
structure BdAt (B g : Nat) (b : Bs) (vt vo : Value) (w : World) : Prop where
  box : w.heap[g]? = some (.cells #[vt, vo, .slice none 0 0] 60 (0, 0))
  t : Kd.S k38 38 w B (fun k => some k ≠ vo.ownBlock) vt b.t
  op : Kd.Q (Kd.int .i64) 3 w B (fun _ => True) vo b.op
theorem BdAt.below {B g : Nat} {b : Bs} {vt vo : Value} {w w' : World} (h : BdAt B g b vt vo w) (hb : Below w.heap.size w w') : BdAt B g b vt vo w' :=
  ⟨blk_below h.box hb, Kd.S_below h.t hb, Kd.Q_below h.op hb⟩
theorem BdAt.cell0 {B g : Nat} {b : Bs} {vt vo : Value} {w : World} (h : BdAt B g b vt vo w) : w.cell? ⟨g, 0, none⟩ = some vt := by rw [blk_cell h.box]; rfl
theorem BdAt.cell1 {B g : Nat} {b : Bs} {vt vo : Value} {w : World} (h : BdAt B g b vt vo w) : w.cell? ⟨g, 1, none⟩ = some vo := by rw [blk_cell h.box]; rfl
theorem BdAt.frz {B g : Nat} {b : Bs} {vt vo : Value} {w : World} (h : BdAt B g b vt vo w) (j : Nat) : w.frozen? ⟨g, j, none⟩ = false := blk_frozen h.box j
/-- The nodes' row. -/
theorem BdAt.tform {B g : Nat} {b : Bs} {vt vo : Value} {w : World} (h : BdAt B g b vt vo w) (hp : 0 < b.t.length) : ∃ gt cap, vt = .slice (some ⟨gt, 0, none⟩) b.t.length cap := by
  obtain ⟨gt, cap, rfl, -⟩ := Kd.S_form h.t hp
  exact ⟨gt, cap, rfl⟩
theorem BdAt.oform {B g : Nat} {b : Bs} {vt vo : Value} {w : World} (h : BdAt B g b vt vo w) (hp : 0 < b.op.length) : ∃ go oo cap, vo = .slice (some ⟨go, oo, none⟩) b.op.length cap := by
  obtain ⟨go, oo, cap, rfl, -⟩ := Kd.Q_form h.op hp
  exact ⟨go, oo, cap, rfl⟩
theorem BdAt.ocell {B g : Nat} {b : Bs} {vt : Value} {go oo cap : Nat} {w : World} (h : BdAt B g b vt (.slice (some ⟨go, oo, none⟩) b.op.length cap) w) (i : Int) (h0 : 0 ≤ i) (h1 : i < b.op.length) : w.cell? ⟨go, oo + i.toNat, none⟩ = some (.int .i64 (rd b.op i)) := (Kd.Q_cell 0 h.op i h0 (by omega)).1

set_option maxHeartbeats 1000000 in
set_option maxRecDepth 100000 in
theorem top_calls (B g gt cap : Nat) (b : Bs) (vo : Value) (w : World) (h : BdAt B g b (.slice (some ⟨gt, 0, none⟩) b.t.length cap) vo w) (hok : topOk b) :
    Calls Tryz.prog 71 #[.pointer (some ⟨g, 0, none⟩)] w fun e w' => e = .returned (.pointer (some ⟨gt, (topI b).toNat * 6, none⟩)) ∧ Drawn0 w w' := by
  obtain ⟨go, oo, co, rfl⟩ := h.oform hok.1
  have c0 := h.cell0
  have c1 := h.cell1
  obtain ⟨k1, k2, k3⟩ := hok
  have c2 := h.ocell ((b.op.length : Int) - 1) (by omega) (by omega)
  change w.cell? _ = some (.int .i64 (topI b)) at c2
  have e2 : ((b.op.length : Int) - 1).toNat = b.op.length - 1 := by omega
  rw [e2] at c2
  generalize topI b = T at *
  have hl : b.op.length ≤ 9223372036854775807 := (Kd.Q_reads' h.op).2.2.2.1
  have hl2 : b.t.length ≤ 9223372036854775807 := (Kd.S_reads' h.t).2.2.2.1
  clear h
  generalize b.op.length = L at *
  generalize b.t.length = M at *
  go_enter Tryz.func71, Tryz.ntmps71
  go_wp2_with fail
  go_quiet (fail)
  go_wp2
  go_ret
  exact ⟨rfl, ⟨⟨_, rfl⟩⟩⟩

def BdEx (B g : Nat) (b : Bs) (w : World) : Prop := ∃ vt vo, BdAt B g b vt vo w
theorem BdEx.below {B g : Nat} {b : Bs} {w w' : World} (h : BdEx B g b w) (hb : Below w.heap.size w w') : BdEx B g b w' := by
  obtain ⟨vt, vo, h⟩ := h
  exact ⟨vt, vo, h.below hb⟩
theorem ne_E {q t : Nat} {l : List Nat} (h : ∀ q, q ∈ l → q ≠ t) (hq : q ∈ l) : q ≠ t := h q hq
theorem tE : ∀ q, q ∈ (38 : Nat) :: (k38).E → q ≠ 60 := by decide
theorem oE : ∀ q, q ∈ (3 : Nat) :: (Kd.int .i64).E → q ≠ 60 := by decide
/-- What is open, cut by one. -/
theorem BdAt.popped {B g go oo co : Nat} {b : Bs} {vt : Value} {w : World} (h : BdAt B g b vt (.slice (some ⟨go, oo, none⟩) b.op.length co) w) :
    BdAt B g (popB b) vt (.slice (some ⟨go, oo, none⟩) (b.op.length - 1) co) (w.setCell ⟨g, 1, none⟩ (.slice (some ⟨go, oo, none⟩) (b.op.length - 1) co)) := by
  refine ⟨blk_put h.box 1 _ rfl, ?_, ?_⟩
  · exact Kd.S_mono (Kd.S_set h.t h.box tE 1 _) (fun k hk => by simpa [Value.ownBlock] using hk)
  · exact Kd.Q_set (Kd.Q_take h.op (by omega)) h.box oE 1 _
set_option maxHeartbeats 1000000 in
set_option maxRecDepth 100000 in
theorem pop_calls (B g : Nat) (b : Bs) (w0 w : World) (h : BdEx B g b w) (hp : 0 < b.op.length) (hb : Below B w0 w) (hg : B ≤ g) :
    Calls Tryz.prog 72 #[.pointer (some ⟨g, 0, none⟩)] w fun e w' => e = .returned (.tuple #[]) ∧ BdEx B g (popB b) w' ∧ Below B w0 w' ∧ KeepBut w w' g none := by
  obtain ⟨vt, vo, h⟩ := h
  obtain ⟨go, oo, co, rfl⟩ := h.oform hp
  have c1 := h.cell1
  have f1 := h.frz 1
  have e2 : ((b.op.length : Int) - 1).toNat = b.op.length - 1 := by omega
  have hl : b.op.length ≤ 9223372036854775807 := (Kd.Q_reads' h.op).2.2.2.1
  have hlc : b.op.length ≤ co := (Kd.Q_reads' h.op).2.1
  have HP := Lib.hid h.popped
  clear h
  generalize b.op.length = L at *
  go_enter Tryz.func72, Tryz.ntmps72
  go_wp2_with fail
  have b0 : (1 : Int) ≤ (L : Int) := by omega
  have b1 : (L : Int) - 1 ≤ (co : Int) := by omega
  have hw : IntKind.i64.wrap ((L : Int) - 1) = (L : Int) - 1 := IntWalk.i64_in _ (by omega)
  go_region_law (fail)
  all_goals
    go_end0
    exact ⟨rfl, ⟨vt, _, HP.out.below (Below.drew (Below.refl _ _))⟩, Below.drew (hb.setCell hg _), keep_drew ((KeepBut.refl w g none).set_ 1 _)⟩
end Go.Proofs.YtpfhgolamlnhiaaGreatDoor

set_option linter.unusedVariables false
set_option linter.unusedSimpArgs false
namespace Go.Proofs.YtpfhgolamlnhiaaGreatDoor
open Go.RowKit Go.Proofs.YtpfhgolamlnhiaaGreatDoorW.PrintWords Go.Proofs.YtpfhgolamlnhiaaGreatDoorW.PrintLast Go.Proofs.YtpfhgolamlnhiaaGreatDoor.XT Go.Proofs.YtpfhgolamlnhiaaGreatDoor.XA

theorem alloc_drewN1 (W : World) (o : Obj) (a : Nat) : (W.alloc o).drewN a = (W.drewN a).alloc o := rfl
theorem alloc_drewN2 (W : World) (o : Obj) (a b : Nat) : ((W.alloc o).drewN a).drewN b = ((W.drewN a).drewN b).alloc o := rfl
theorem alloc_drewN3 (W : World) (o : Obj) (a b : Nat) : ((W.alloc o).drew.drewN a).drewN b = ((W.drew.drewN a).drewN b).alloc o := rfl
theorem setCells_one (W : World) (g o : Nat) (v : Value) : W.setCells g o [v] = W.setCell ⟨g, o, none⟩ v := rfl
/-- The current node's children, lent. -/
theorem node_lend {W : World} {B gt M cap : Nat} {ok : Nat → Prop} {t : List NodeD} (h : Kd.S k38 38 W B ok (.slice (some ⟨gt, 0, none⟩) M cap) t) (T : Int) (h0 : 0 ≤ T) (h1 : T < M) :
    ∃ (oki : Nat → Prop) (v2 v5 : Value), Kd.R k40 40 W B oki v2 (rd_T38 t T).f2 ∧ Kd.R (Kd.int .i64) 3 W B oki v5 (rd_T38 t T).f5 ∧ (∀ k, oki k → ok k ∧ k ≠ gt) ∧
      (∀ j u, ([.int .u8 (rd_T38 t T).f0, .string (rd_T38 t T).f1, v2, .string (rd_T38 t T).f3, .int .i64 (rd_T38 t T).f4, v5] : List Value)[j]? = some u → W.cell? ⟨gt, T.toNat * 6 + j, none⟩ = some u) ∧
      (∀ j, W.frozen? ⟨gt, T.toNat * 6 + j, none⟩ = false) ∧
      Kd.H k38 38 W B ok (.slice (some ⟨gt, 0, none⟩) M cap) t T oki [.int .u8 (rd_T38 t T).f0, .string (rd_T38 t T).f1, v2, .string (rd_T38 t T).f3, .int .i64 (rd_T38 t T).f4, v5] := by
  obtain ⟨oki, c, hcl, hM, hcc, hfr, hoki, hH⟩ := Kd.S_elem h z38 T h0 h1
  obtain ⟨v2, v5, rfl, h2, h5⟩ := k38_openM hM
  exact ⟨oki, v2, v5, h2, h5, hoki, hcc, hfr, hH⟩
set_option maxHeartbeats 4000000 in
set_option maxRecDepth 100000 in
theorem add_calls (B g : Nat) (b : Bs) (n : NodeD) (z4 : Int) (va : Value) (okA : Nat → Prop) (r : Int × Bs) (vt vo : Value) (w0 w : World) (h : BdAt B g b vt vo w) (hb : Below B w0 w) (hB : B ≤ g)
    (hf5 : n.f5 = []) (hA : Kd.R k40 40 w B okA va n.f2) (hAlt : ∀ k, okA k → k < w.heap.size) (hAt : Kd.S k38 38 w B (fun k => some k ≠ vo.ownBlock ∧ ¬ okA k) vt b.t) (hAo : ∀ k, okA k → some k ≠ vo.ownBlock ∧ some k ≠ vt.ownBlock) (hBw : B ≤ w.heap.size)
    (hr : addB b n = some r) :
    Calls Tryz.prog 73 #[.pointer (some ⟨g, 0, none⟩), .agg #[.int .u8 n.f0, .string n.f1, va, .string n.f3, .int .i64 z4, .slice none 0 0]] w fun e w' => e = .returned (.int .i64 r.1) ∧ (r.1 = 0 → BdEx B g r.2 w') ∧ Below B w0 w' := by
  have c0 := h.cell0
  have H := Lib.hid h
  have HF5 := Lib.hid hf5
  clear hf5
  obtain ⟨A2, q2, rfl⟩ := Kd.R_slice hA
  obtain ⟨At, qt, rfl⟩ := Kd.S_slice h.t
  have hlt9 : b.t.length ≤ 9223372036854775807 := (Kd.S_reads' h.t).2.2.2.1
  unfold addB at hr
  by_cases hmax : 16384 ≤ b.t.length
  · rw [if_pos hmax] at hr
    obtain rfl := Option.some.inj hr
    have hq : (16384 : Int) ≤ (b.t.length : Int) := by omega
    have hnew : ∀ o : Obj, (w.alloc o).cell? ⟨g, 0, none⟩ = some (.slice At b.t.length qt) := fun o => pw_cell_below (below_alloc (Below.refl _ _) o) c0
    clear h hA hAt hr hAo hAlt
    go_enter Tryz.func73, Tryz.ntmps73
    go_wp2_with fail
    go_ret
    exact ⟨rfl, fun h => absurd (show (3 : Int) = 0 from h) (by decide), hb.alloc (Nat.le_trans hBw (Nat.le_refl _)) _⟩
  · rw [if_neg hmax] at hr
    split at hr
    case isFalse => cases hr
    rename_i hok
    obtain rfl := Option.some.inj hr
    obtain ⟨hok, hk5⟩ := hok
    have HOK := Lib.hid hok
    obtain ⟨k1, k2, k3⟩ := hok
    obtain ⟨gt, cap, e⟩ := h.tform (by omega)
    injection e with e1 e2 e3
    subst e1
    subst e3
    obtain ⟨go, oo, co, rfl⟩ := h.oform k1
    have hq : ¬ (16384 : Int) ≤ (b.t.length : Int) := by omega
    have c1 := h.cell1
    have c2 := h.ocell ((b.op.length : Int) - 1) (by omega) (by omega)
    change w.cell? _ = some (.int .i64 (topI b)) at c2
    have e2 : ((b.op.length : Int) - 1).toNat = b.op.length - 1 := by omega
    rw [e2] at c2
    have hl : b.op.length ≤ 9223372036854775807 := (Kd.Q_reads' h.op).2.2.2.1
    have hw : IntKind.i64.wrap ((b.op.length : Int) - 1) = (b.op.length : Int) - 1 := IntWalk.i64_in _ (by omega)
    have hnew : ∀ (o : Obj) (a : Addr) (u : Value), w.cell? a = some u → (w.alloc o).cell? a = some u := fun o a u hc => pw_cell_below (below_alloc (Below.refl _ _) o) hc
    have d0 := hnew (.cells #[.int .u8 n.f0, .string n.f1, .slice A2 n.f2.length q2, .string n.f3, .int .i64 z4, .slice none 0 0] 38) _ _ c0
    have d1 := hnew (.cells #[.int .u8 n.f0, .string n.f1, .slice A2 n.f2.length q2, .string n.f3, .int .i64 z4, .slice none 0 0] 38) _ _ c1
    have d2 := hnew (.cells #[.int .u8 n.f0, .string n.f1, .slice A2 n.f2.length q2, .string n.f3, .int .i64 z4, .slice none 0 0] 38) _ _ c2
    clear hnew
    clear c0 c1 c2
    have hN := blk_new w (.cells #[.int .u8 n.f0, .string n.f1, .slice A2 n.f2.length q2, .string n.f3, .int .i64 z4, .slice none 0 0] 38)
    have n4 : (w.alloc (.cells #[.int .u8 n.f0, .string n.f1, .slice A2 n.f2.length q2, .string n.f3, .int .i64 z4, .slice none 0 0] 38)).cell? ⟨w.heap.size, 4, none⟩ = some (.int .i64 z4) := by rw [blk_cell hN]; rfl
    have f4 := blk_frozen hN 4
    go_enter Tryz.func73, Tryz.ntmps73
    go_wp2_with fail
    have b0 : (1 : Int) ≤ (b.op.length : Int) := by omega
    have b1 : (b.op.length : Int) - 1 < (b.op.length : Int) := by omega
    refine start_ (n := 14) (S := fun w' => w'.cell? ⟨g, 1, none⟩ = some (.slice (some ⟨go, oo, none⟩) b.op.length co) ∧ w'.cell? ⟨go, oo + (b.op.length - 1), none⟩ = some (.int .i64 (topI b))) (ds := [13]) #[false, false, false, false, false, false, false, false, false, false, false, false, false, false] (by kernel_rfl) rfl rfl ⟨d1, d2⟩ (fun hHeld => ?_)
    refine pure_ (i := 0) (N := some 11) (v := ?_) (a' := ?_) #[true, false, false, false, false, false, false, false, false, false, false, false, false, false] rfl rfl (by kernel_rfl) (fun _ _ _ h => h) (Or.inl ⟨by rfl, ?_⟩) ?_ ?_
    rotate_left
    · intro w'
      go_simp
      with_reducible rfl
    rotate_left
    · simp only [Act.put, List.setIfInBounds_toArray, List.set_cons_zero, List.set_cons_succ, i64_w, i32_w]
      rfl
    refine pure_ (i := 1) (N := some 12) (v := ?_) (a' := ?_) #[true, true, false, false, false, false, false, false, false, false, false, false, false, false] rfl rfl (by kernel_rfl) (fun _ _ _ h => h) (Or.inl ⟨by rfl, ?_⟩) ?_ ?_
    rotate_left
    · intro w'
      go_simp
      with_reducible rfl
    rotate_left
    · simp only [Act.put, List.setIfInBounds_toArray, List.set_cons_zero, List.set_cons_succ, i64_w, i32_w]
      rfl
    refine pure_ (i := 2) (N := some 13) (v := ?_) (a' := ?_) #[true, true, true, false, false, false, false, false, false, false, false, false, false, false] rfl rfl (by kernel_rfl) (fun _ _ _ h => h) (Or.inl ⟨by rfl, ?_⟩) ?_ ?_
    rotate_left
    · intro w'
      go_simp
      with_reducible rfl
    rotate_left
    · simp only [Act.put, List.setIfInBounds_toArray, List.set_cons_zero, List.set_cons_succ, i64_w, i32_w]
      rfl
    refine pure_ (i := 4) (N := some 15) (v := ?_) (a' := ?_) #[true, true, true, false, true, false, false, false, false, false, false, false, false, false] rfl rfl (by kernel_rfl) (fun _ _ _ h => h) (Or.inl ⟨by rfl, ?_⟩) ?_ ?_
    rotate_left
    · intro w'
      go_simp
      with_reducible rfl
    rotate_left
    · simp only [Act.put, List.setIfInBounds_toArray, List.set_cons_zero, List.set_cons_succ, i64_w, i32_w]
      rfl
    refine pure_ (i := 5) (N := some 16) (v := ?_) (a' := ?_) #[true, true, true, false, true, true, false, false, false, false, false, false, false, false] rfl rfl (by kernel_rfl) (fun _ _ _ h => h) (Or.inl ⟨by rfl, ?_⟩) ?_ ?_
    rotate_left
    · intro w'
      go_simp
      with_reducible rfl
    rotate_left
    · simp only [Act.put, List.setIfInBounds_toArray, List.set_cons_zero, List.set_cons_succ, i64_w, i32_w]
      rfl
    refine pure_ (i := 6) (N := some 17) (v := ?_) (a' := ?_) #[true, true, true, false, true, true, true, false, false, false, false, false, false, false] rfl rfl (by kernel_rfl) (fun _ _ _ h => h) (Or.inl ⟨by rfl, ?_⟩) ?_ ?_
    rotate_left
    · intro w'
      go_simp
      with_reducible rfl
    rotate_left
    · simp only [Act.put, List.setIfInBounds_toArray, List.set_cons_zero, List.set_cons_succ, i64_w, i32_w]
      rfl
    refine take_ (i := 3) (N := some 14) (v := ?_) (a' := ?_) #[true, true, true, true, true, true, true, false, false, false, false, false, false, false] rfl rfl (by kernel_rfl) (fun _ _ _ h => h) (Or.inl ⟨by rfl, ?_⟩) hHeld ?_ ?_
    rotate_left
    · rintro w' ⟨s0, s1⟩
      go_simp
      with_reducible rfl
    rotate_left
    · simp only [Act.put, List.setIfInBounds_toArray, List.set_cons_zero, List.set_cons_succ, i64_w, i32_w]
      rfl
    refine take_ (i := 7) (N := some 18) (v := ?_) (a' := ?_) #[true, true, true, true, true, true, true, true, false, false, false, false, false, false] rfl rfl (by kernel_rfl) (fun _ _ _ h => h) (Or.inl ⟨by rfl, ?_⟩) hHeld ?_ ?_
    rotate_left
    · rintro w' ⟨s0, s1⟩
      go_simp
      with_reducible rfl
    rotate_left
    · simp only [Act.put, List.setIfInBounds_toArray, List.set_cons_zero, List.set_cons_succ, i64_w, i32_w]
      rfl
    refine pure_ (i := 8) (N := some 19) (v := ?_) (a' := ?_) #[true, true, true, true, true, true, true, true, true, false, false, false, false, false] rfl rfl (by kernel_rfl) (fun _ _ _ h => h) (Or.inl ⟨by rfl, ?_⟩) ?_ ?_
    rotate_left
    · intro w'
      go_simp
      with_reducible rfl
    rotate_left
    · simp only [Act.put, List.setIfInBounds_toArray, List.set_cons_zero, List.set_cons_succ, i64_w, i32_w]
      rfl
    refine pure_ (i := 9) (N := some 20) (v := ?_) (a' := ?_) #[true, true, true, true, true, true, true, true, true, true, false, false, false, false] rfl rfl (by kernel_rfl) (fun _ _ _ h => h) (Or.inl ⟨by rfl, ?_⟩) ?_ ?_
    rotate_left
    · intro w'
      go_simp
      with_reducible rfl
    rotate_left
    · simp only [Act.put, List.setIfInBounds_toArray, List.set_cons_zero, List.set_cons_succ, i64_w, i32_w]
      rfl
    refine pure_ (i := 10) (N := some 21) (v := ?_) (a' := ?_) #[true, true, true, true, true, true, true, true, true, true, true, false, false, false] rfl rfl (by kernel_rfl) (fun _ _ _ h => h) (Or.inl ⟨by rfl, ?_⟩) ?_ ?_
    rotate_left
    · intro w'
      go_simp
      with_reducible rfl
    rotate_left
    · simp only [Act.put, List.setIfInBounds_toArray, List.set_cons_zero, List.set_cons_succ, i64_w, i32_w]
      rfl
    refine take_ (i := 11) (N := some 22) (v := ?_) (a' := ?_) #[true, true, true, true, true, true, true, true, true, true, true, true, false, false] rfl rfl (by kernel_rfl) (fun _ _ _ h => h) (Or.inl ⟨by rfl, ?_⟩) hHeld ?_ ?_
    rotate_left
    · rintro w' ⟨s0, s1⟩
      go_simp
      with_reducible rfl
    rotate_left
    · simp only [Act.put, List.setIfInBounds_toArray, List.set_cons_zero, List.set_cons_succ, i64_w, i32_w]
      rfl
    refine pure_ (i := 12) (N := some 23) (v := ?_) (a' := ?_) #[true, true, true, true, true, true, true, true, true, true, true, true, true, false] rfl rfl (by kernel_rfl) (fun _ _ _ h => h) (Or.inl ⟨by rfl, ?_⟩) ?_ ?_
    rotate_left
    · intro w'
      go_simp
      with_reducible rfl
    rotate_left
    · simp only [Act.put, List.setIfInBounds_toArray, List.set_cons_zero, List.set_cons_succ, i64_w, i32_w]
      rfl
    refine last_ (i := 13) (N := none) #[true, true, true, true, true, true, true, true, true, true, true, true, true, true] rfl rfl (by kernel_rfl) (by decide) (fun K hK => ?_)
    refine skip_ (w1 := ?_) (by rfl) rfl ?_ ?_
    rotate_left
    · go_simp
      rfl
    refine hK.out _ _ ?_
    clear hK K
    refine done_ (by kernel_rfl) ?_
    go_wp2_with fail
    have hb3 : Below w.heap.size w (w.alloc (.cells #[.int .u8 n.f0, .string n.f1, .slice A2 n.f2.length q2, .string n.f3, .int .i64 (topI b), .slice none 0 0] 38)).drew := (below_alloc (Below.refl _ _) _).drew
    have hN3 : (w.alloc (.cells #[.int .u8 n.f0, .string n.f1, .slice A2 n.f2.length q2, .string n.f3, .int .i64 (topI b), .slice none 0 0] 38)).drew.heap[w.heap.size]? = some (.cells #[.int .u8 n.f0, .string n.f1, .slice A2 n.f2.length q2, .string n.f3, .int .i64 (topI b), .slice none 0 0] 38 (0, 0)) := blk_new w _
    have H3 := Lib.hid (H.out.below hb3)
    have hA3 := Lib.hid (Kd.R_below hA hb3)
    have hAt3 := Kd.S_below hAt hb3
    have hbb3 := Lib.hid (below_then hb hBw hb3)
    have hgt : gt < w.heap.size := Kd.S_lt h.t gt (by simp [Value.ownBlock])
    have hBw3 : B ≤ (w.alloc (.cells #[.int .u8 n.f0, .string n.f1, .slice A2 n.f2.length q2, .string n.f3, .int .i64 (topI b), .slice none 0 0] 38)).drew.heap.size := Nat.le_trans hBw hb3.size
    clear hA hAt d0 d1 d2 hN n4 f4 H h hb
    generalize (w.alloc (.cells #[.int .u8 n.f0, .string n.f1, .slice A2 n.f2.length q2, .string n.f3, .int .i64 (topI b), .slice none 0 0] 38)).drew = w3 at *
    have hnlt : w.heap.size < w3.heap.size := blk_lt hN3
    have hbs := hb3.size
    generalize w.heap.size = nb at *
    clear hb3
    obtain ⟨oki, v2, v5, hR2, hR5, hoki, hcc, hfr, hH⟩ := node_lend hAt3 (topI b) k2 k3
    obtain ⟨A5, q5, e5⟩ := Kd.R_slice hR5
    have c5 := hcc 5 v5 rfl
    have f5 := hfr 5
    subst e5
    have hgtne : some gt ≠ (Value.slice A5 (rd_T38 b.t (topI b)).f5.length q5).ownBlock := fun e => (hoki gt (hR5.1 gt e.symm)).2 rfl
    have hgo : go < w3.heap.size := Kd.Q_lt H3.out.op go (by simp [Value.ownBlock])
    have hk5' : (rd_T38 b.t (topI b)).f5.length < 16384 := hk5
    have c0 := H3.out.cell0
    have TC := fun (w' : World) (hb' : Below w3.heap.size w3 w') => top_calls B g gt qt b _ w' (H3.out.below hb') HOK.out
    refine start_ (n := 17) (S := fun w' => w'.cell? ⟨g, 0, none⟩ = some (.slice (some ⟨gt, 0, none⟩) b.t.length qt) ∧ w'.cell? ⟨gt, (topI b).toNat * 6 + 5, none⟩ = some (.slice A5 (rd_T38 b.t (topI b)).f5.length q5)) (ds := [16]) #[false, false, false, false, false, false, false, false, false, false, false, false, false, false, false, false, false] (by kernel_rfl) rfl rfl ⟨c0, c5⟩ (fun hHeld => ?_)
    refine pure_ (i := 0) (N := some 24) (v := ?_) (a' := ?_) #[true, false, false, false, false, false, false, false, false, false, false, false, false, false, false, false, false] rfl rfl (by kernel_rfl) (fun _ _ _ h => h) (Or.inl ⟨by rfl, ?_⟩) ?_ ?_
    rotate_left
    · intro w'
      go_simp
      with_reducible rfl
    rotate_left
    · simp only [Act.put, List.setIfInBounds_toArray, List.set_cons_zero, List.set_cons_succ, i64_w, i32_w]
      rfl
    refine pure_ (i := 2) (N := some 26) (v := ?_) (a' := ?_) #[true, false, true, false, false, false, false, false, false, false, false, false, false, false, false, false, false] rfl rfl (by kernel_rfl) (fun _ _ _ h => h) (Or.inl ⟨by rfl, ?_⟩) ?_ ?_
    rotate_left
    · intro w'
      go_simp
      with_reducible rfl
    rotate_left
    · simp only [Act.put, List.setIfInBounds_toArray, List.set_cons_zero, List.set_cons_succ, i64_w, i32_w]
      rfl
    refine pure_ (i := 7) (N := some 31) (v := ?_) (a' := ?_) #[true, false, true, false, false, false, false, true, false, false, false, false, false, false, false, false, false] rfl rfl (by kernel_rfl) (fun _ _ _ h => h) (Or.inl ⟨by rfl, ?_⟩) ?_ ?_
    rotate_left
    · intro w'
      go_simp
      with_reducible rfl
    rotate_left
    · simp only [Act.put, List.setIfInBounds_toArray, List.set_cons_zero, List.set_cons_succ, i64_w, i32_w]
      rfl
    refine pure_ (i := 8) (N := some 32) (v := ?_) (a' := ?_) #[true, false, true, false, false, false, false, true, true, false, false, false, false, false, false, false, false] rfl rfl (by kernel_rfl) (fun _ _ _ h => h) (Or.inl ⟨by rfl, ?_⟩) ?_ ?_
    rotate_left
    · intro w'
      go_simp
      with_reducible rfl
    rotate_left
    · simp only [Act.put, List.setIfInBounds_toArray, List.set_cons_zero, List.set_cons_succ, i64_w, i32_w]
      rfl
    refine pure_ (i := 9) (N := some 33) (v := ?_) (a' := ?_) #[true, false, true, false, false, false, false, true, true, true, false, false, false, false, false, false, false] rfl rfl (by kernel_rfl) (fun _ _ _ h => h) (Or.inl ⟨by rfl, ?_⟩) ?_ ?_
    rotate_left
    · intro w'
      go_simp
      with_reducible rfl
    rotate_left
    · simp only [Act.put, List.setIfInBounds_toArray, List.set_cons_zero, List.set_cons_succ, i64_w, i32_w]
      rfl
    refine take_ (i := 10) (N := some 34) (v := ?_) (a' := ?_) #[true, false, true, false, false, false, false, true, true, true, true, false, false, false, false, false, false] rfl rfl (by kernel_rfl) (fun _ _ _ h => h) (Or.inl ⟨by rfl, ?_⟩) hHeld ?_ ?_
    rotate_left
    · rintro w' ⟨s0, s1⟩
      go_simp
      with_reducible rfl
    rotate_left
    · simp only [Act.put, List.setIfInBounds_toArray, List.set_cons_zero, List.set_cons_succ, i64_w, i32_w]
      rfl
    refine pure_ (i := 11) (N := some 35) (v := ?_) (a' := ?_) #[true, false, true, false, false, false, false, true, true, true, true, true, false, false, false, false, false] rfl rfl (by kernel_rfl) (fun _ _ _ h => h) (Or.inl ⟨by rfl, ?_⟩) ?_ ?_
    rotate_left
    · intro w'
      go_simp
      with_reducible rfl
    rotate_left
    · simp only [Act.put, List.setIfInBounds_toArray, List.set_cons_zero, List.set_cons_succ, i64_w, i32_w]
      rfl
    refine join_ (σ := Unit) 4 #[true, true, true, true, true, true, true, true, true, true, true, true, true, false, false, false, false] (fun _ => [(25, .pointer (some ⟨gt, (topI b).toNat * 6, none⟩)), (27, .pointer (some ⟨gt, (topI b).toNat * 6, none⟩)), (36, .slice (some ⟨w3.heap.size, 0, none⟩) 1 1), (28, .pointer (some ⟨gt, (topI b).toNat * 6, none⟩)), (29, .pointer (some ⟨gt, (topI b).toNat * 6 + 5, none⟩)), (30, .slice A5 (rd_T38 b.t (topI b)).f5.length q5)]) (fun _ w' => ∃ W : World, w' = W.alloc (.cells #[.int .i64 (b.t.length : Int)] 3) ∧ Below w3.heap.size w3 W ∧ W.heap.size = w3.heap.size) ?_ ?_
    rotate_left
    · intro hCont
      refine two_ (i := 1) (j := 12) (Ni := some 25) (Nj := some 36) #[true, true, true, false, false, false, false, true, true, true, true, true, false, false, false, false, false] #[true, false, true, false, false, false, false, true, true, true, true, true, true, false, false, false, false] rfl rfl rfl rfl (by kernel_rfl) (by decide) (by decide) (fun K hK => ?_) (fun K hK => ?_)
      · skip
        refine goes_ Tryz.func71 (by kernel_rfl) rfl #[.pointer (some ⟨g, 0, none⟩)] (by rfl) rfl rfl (by simp only [List.map_toArray, List.map_cons, List.map_nil]; rfl) ?_
        with_reducible refine (TC _ (by repeat (first | exact Below.refl _ _ | apply below_alloc | apply pw_below_drewN | apply Below.drew))).mono ?_
        rintro e w41 ⟨rfl, ⟨nd1, rfl⟩⟩
        refine ⟨_, rfl, ?_⟩
        refine hK.out _ _ ⟨(pw_cell_below (by repeat (first | exact Below.refl _ _ | apply below_alloc | apply pw_below_drewN | apply Below.drew)) c0), (pw_cell_below (by repeat (first | exact Below.refl _ _ | apply below_alloc | apply pw_below_drewN | apply Below.drew)) c5)⟩ (fun hHeld => ?_)
        clear hK K
        refine norm_ (a' := ?_) ?_ ?_
        rotate_left
        · show Act.put _ (some 25) _ = _
          simp only [Act.put, List.setIfInBounds_toArray, List.set_cons_zero, List.set_cons_succ, i64_w, i32_w]
          rfl
        refine two_ (i := 3) (j := 12) (Ni := some 27) (Nj := some 36) #[true, true, true, true, false, false, false, true, true, true, true, true, false, false, false, false, false] #[true, true, true, false, false, false, false, true, true, true, true, true, true, false, false, false, false] rfl rfl rfl rfl (by kernel_rfl) (by decide) (by decide) (fun K hK => ?_) (fun K hK => ?_)
        · skip
          refine goes_ Tryz.func71 (by kernel_rfl) rfl #[.pointer (some ⟨g, 0, none⟩)] (by rfl) rfl rfl (by simp only [List.map_toArray, List.map_cons, List.map_nil]; rfl) ?_
          with_reducible refine (TC _ (by repeat (first | exact Below.refl _ _ | apply below_alloc | apply pw_below_drewN | apply Below.drew))).mono ?_
          rintro e w43 ⟨rfl, ⟨nd3, rfl⟩⟩
          refine ⟨_, rfl, ?_⟩
          refine hK.out _ _ ⟨(pw_cell_below (by repeat (first | exact Below.refl _ _ | apply below_alloc | apply pw_below_drewN | apply Below.drew)) c0), (pw_cell_below (by repeat (first | exact Below.refl _ _ | apply below_alloc | apply pw_below_drewN | apply Below.drew)) c5)⟩ (fun hHeld => ?_)
          clear hK K
          refine norm_ (a' := ?_) ?_ ?_
          rotate_left
          · show Act.put _ (some 27) _ = _
            simp only [Act.put, List.setIfInBounds_toArray, List.set_cons_zero, List.set_cons_succ, i64_w, i32_w]
            rfl
          refine pure_ (i := 4) (N := some 28) (v := ?_) (a' := ?_) #[true, true, true, true, true, false, false, true, true, true, true, true, false, false, false, false, false] rfl rfl (by kernel_rfl) (fun _ _ _ h => h) (Or.inl ⟨by rfl, ?_⟩) ?_ ?_
          rotate_left
          · intro w'
            go_simp
            with_reducible rfl
          rotate_left
          · simp only [Act.put, List.setIfInBounds_toArray, List.set_cons_zero, List.set_cons_succ, i64_w, i32_w]
            rfl
          refine pure_ (i := 5) (N := some 29) (v := ?_) (a' := ?_) #[true, true, true, true, true, true, false, true, true, true, true, true, false, false, false, false, false] rfl rfl (by kernel_rfl) (fun _ _ _ h => h) (Or.inl ⟨by rfl, ?_⟩) ?_ ?_
          rotate_left
          · intro w'
            go_simp
            with_reducible rfl
          rotate_left
          · simp only [Act.put, List.setIfInBounds_toArray, List.set_cons_zero, List.set_cons_succ, i64_w, i32_w]
            rfl
          refine take_ (i := 6) (N := some 30) (v := ?_) (a' := ?_) #[true, true, true, true, true, true, true, true, true, true, true, true, false, false, false, false, false] rfl rfl (by kernel_rfl) (fun _ _ _ h => h) (Or.inl ⟨by rfl, ?_⟩) hHeld ?_ ?_
          rotate_left
          · rintro w' ⟨s0, s1⟩
            go_simp
            with_reducible rfl
          rotate_left
          · simp only [Act.put, List.setIfInBounds_toArray, List.set_cons_zero, List.set_cons_succ, i64_w, i32_w]
            rfl
          refine one_ (i := 12) (N := some 36) #[true, true, true, true, true, true, true, true, true, true, true, true, true, false, false, false, false] rfl rfl (by kernel_rfl) (by decide) (fun K hK => ?_)
          refine value_ (w1 := ?_) (v := ?_) (by rfl) rfl ?_ ?_
          rotate_left 2
          · go_simp
            constructor
            · rfl
            · rfl
          refine hK.out _ _ ⟨(pw_cell_below (by repeat (first | exact Below.refl _ _ | apply below_alloc | apply pw_below_drewN | apply Below.drew)) c0), (pw_cell_below (by repeat (first | exact Below.refl _ _ | apply below_alloc | apply pw_below_drewN | apply Below.drew)) c5)⟩ (fun hHeld => ?_)
          clear hK K
          refine norm_ (a' := ?_) ?_ ?_
          rotate_left
          · show Act.put _ (some 36) _ = _
            simp only [Act.put, List.setIfInBounds_toArray, List.set_cons_zero, List.set_cons_succ, i64_w, i32_w]
            rfl
          exact norm_ (by simp only [putAll, Act.put, List.setIfInBounds_toArray, List.set_cons_zero, List.set_cons_succ]) (hCont () _ (by first | exact ⟨_, rfl, (by repeat (first | exact Below.refl _ _ | apply below_alloc | apply pw_below_drewN | apply Below.drew)), rfl⟩ | exact ⟨_, alloc_drewN1 _ _ _, (by repeat (first | exact Below.refl _ _ | apply below_alloc | apply pw_below_drewN | apply Below.drew)), rfl⟩ | exact ⟨_, alloc_drewN2 _ _ _ _, (by repeat (first | exact Below.refl _ _ | apply below_alloc | apply pw_below_drewN | apply Below.drew)), rfl⟩ | exact ⟨_, alloc_drewN3 _ _ _ _, (by repeat (first | exact Below.refl _ _ | apply below_alloc | apply pw_below_drewN | apply Below.drew)), rfl⟩))
        · skip
          refine value_ (w1 := ?_) (v := ?_) (by rfl) rfl ?_ ?_
          rotate_left 2
          · go_simp
            constructor
            · rfl
            · rfl
          refine hK.out _ _ ⟨(pw_cell_below (by repeat (first | exact Below.refl _ _ | apply below_alloc | apply pw_below_drewN | apply Below.drew)) c0), (pw_cell_below (by repeat (first | exact Below.refl _ _ | apply below_alloc | apply pw_below_drewN | apply Below.drew)) c5)⟩ (fun hHeld => ?_)
          clear hK K
          refine norm_ (a' := ?_) ?_ ?_
          rotate_left
          · show Act.put _ (some 36) _ = _
            simp only [Act.put, List.setIfInBounds_toArray, List.set_cons_zero, List.set_cons_succ, i64_w, i32_w]
            rfl
          refine one_ (i := 3) (N := some 27) #[true, true, true, true, false, false, false, true, true, true, true, true, true, false, false, false, false] rfl rfl (by kernel_rfl) (by decide) (fun K hK => ?_)
          refine goes_ Tryz.func71 (by kernel_rfl) rfl #[.pointer (some ⟨g, 0, none⟩)] (by rfl) rfl rfl (by simp only [List.map_toArray, List.map_cons, List.map_nil]; rfl) ?_
          with_reducible refine (TC _ (by repeat (first | exact Below.refl _ _ | apply below_alloc | apply pw_below_drewN | apply Below.drew))).mono ?_
          rintro e w43 ⟨rfl, ⟨nd3, rfl⟩⟩
          refine ⟨_, rfl, ?_⟩
          refine hK.out _ _ ⟨(pw_cell_below (by repeat (first | exact Below.refl _ _ | apply below_alloc | apply pw_below_drewN | apply Below.drew)) c0), (pw_cell_below (by repeat (first | exact Below.refl _ _ | apply below_alloc | apply pw_below_drewN | apply Below.drew)) c5)⟩ (fun hHeld => ?_)
          clear hK K
          refine norm_ (a' := ?_) ?_ ?_
          rotate_left
          · show Act.put _ (some 27) _ = _
            simp only [Act.put, List.setIfInBounds_toArray, List.set_cons_zero, List.set_cons_succ, i64_w, i32_w]
            rfl
          refine pure_ (i := 4) (N := some 28) (v := ?_) (a' := ?_) #[true, true, true, true, true, false, false, true, true, true, true, true, true, false, false, false, false] rfl rfl (by kernel_rfl) (fun _ _ _ h => h) (Or.inl ⟨by rfl, ?_⟩) ?_ ?_
          rotate_left
          · intro w'
            go_simp
            with_reducible rfl
          rotate_left
          · simp only [Act.put, List.setIfInBounds_toArray, List.set_cons_zero, List.set_cons_succ, i64_w, i32_w]
            rfl
          refine pure_ (i := 5) (N := some 29) (v := ?_) (a' := ?_) #[true, true, true, true, true, true, false, true, true, true, true, true, true, false, false, false, false] rfl rfl (by kernel_rfl) (fun _ _ _ h => h) (Or.inl ⟨by rfl, ?_⟩) ?_ ?_
          rotate_left
          · intro w'
            go_simp
            with_reducible rfl
          rotate_left
          · simp only [Act.put, List.setIfInBounds_toArray, List.set_cons_zero, List.set_cons_succ, i64_w, i32_w]
            rfl
          refine take_ (i := 6) (N := some 30) (v := ?_) (a' := ?_) #[true, true, true, true, true, true, true, true, true, true, true, true, true, false, false, false, false] rfl rfl (by kernel_rfl) (fun _ _ _ h => h) (Or.inl ⟨by rfl, ?_⟩) hHeld ?_ ?_
          rotate_left
          · rintro w' ⟨s0, s1⟩
            go_simp
            with_reducible rfl
          rotate_left
          · simp only [Act.put, List.setIfInBounds_toArray, List.set_cons_zero, List.set_cons_succ, i64_w, i32_w]
            rfl
          exact norm_ (by simp only [putAll, Act.put, List.setIfInBounds_toArray, List.set_cons_zero, List.set_cons_succ]) (hCont () _ (by first | exact ⟨_, rfl, (by repeat (first | exact Below.refl _ _ | apply below_alloc | apply pw_below_drewN | apply Below.drew)), rfl⟩ | exact ⟨_, alloc_drewN1 _ _ _, (by repeat (first | exact Below.refl _ _ | apply below_alloc | apply pw_below_drewN | apply Below.drew)), rfl⟩ | exact ⟨_, alloc_drewN2 _ _ _ _, (by repeat (first | exact Below.refl _ _ | apply below_alloc | apply pw_below_drewN | apply Below.drew)), rfl⟩ | exact ⟨_, alloc_drewN3 _ _ _ _, (by repeat (first | exact Below.refl _ _ | apply below_alloc | apply pw_below_drewN | apply Below.drew)), rfl⟩))
      · skip
        refine value_ (w1 := ?_) (v := ?_) (by rfl) rfl ?_ ?_
        rotate_left 2
        · go_simp
          constructor
          · rfl
          · rfl
        refine hK.out _ _ ⟨(pw_cell_below (by repeat (first | exact Below.refl _ _ | apply below_alloc | apply pw_below_drewN | apply Below.drew)) c0), (pw_cell_below (by repeat (first | exact Below.refl _ _ | apply below_alloc | apply pw_below_drewN | apply Below.drew)) c5)⟩ (fun hHeld => ?_)
        clear hK K
        refine norm_ (a' := ?_) ?_ ?_
        rotate_left
        · show Act.put _ (some 36) _ = _
          simp only [Act.put, List.setIfInBounds_toArray, List.set_cons_zero, List.set_cons_succ, i64_w, i32_w]
          rfl
        refine one_ (i := 1) (N := some 25) #[true, true, true, false, false, false, false, true, true, true, true, true, true, false, false, false, false] rfl rfl (by kernel_rfl) (by decide) (fun K hK => ?_)
        refine goes_ Tryz.func71 (by kernel_rfl) rfl #[.pointer (some ⟨g, 0, none⟩)] (by rfl) rfl rfl (by simp only [List.map_toArray, List.map_cons, List.map_nil]; rfl) ?_
        with_reducible refine (TC _ (by repeat (first | exact Below.refl _ _ | apply below_alloc | apply pw_below_drewN | apply Below.drew))).mono ?_
        rintro e w41 ⟨rfl, ⟨nd1, rfl⟩⟩
        refine ⟨_, rfl, ?_⟩
        refine hK.out _ _ ⟨(pw_cell_below (by repeat (first | exact Below.refl _ _ | apply below_alloc | apply pw_below_drewN | apply Below.drew)) c0), (pw_cell_below (by repeat (first | exact Below.refl _ _ | apply below_alloc | apply pw_below_drewN | apply Below.drew)) c5)⟩ (fun hHeld => ?_)
        clear hK K
        refine norm_ (a' := ?_) ?_ ?_
        rotate_left
        · show Act.put _ (some 25) _ = _
          simp only [Act.put, List.setIfInBounds_toArray, List.set_cons_zero, List.set_cons_succ, i64_w, i32_w]
          rfl
        refine one_ (i := 3) (N := some 27) #[true, true, true, true, false, false, false, true, true, true, true, true, true, false, false, false, false] rfl rfl (by kernel_rfl) (by decide) (fun K hK => ?_)
        refine goes_ Tryz.func71 (by kernel_rfl) rfl #[.pointer (some ⟨g, 0, none⟩)] (by rfl) rfl rfl (by simp only [List.map_toArray, List.map_cons, List.map_nil]; rfl) ?_
        with_reducible refine (TC _ (by repeat (first | exact Below.refl _ _ | apply below_alloc | apply pw_below_drewN | apply Below.drew))).mono ?_
        rintro e w43 ⟨rfl, ⟨nd3, rfl⟩⟩
        refine ⟨_, rfl, ?_⟩
        refine hK.out _ _ ⟨(pw_cell_below (by repeat (first | exact Below.refl _ _ | apply below_alloc | apply pw_below_drewN | apply Below.drew)) c0), (pw_cell_below (by repeat (first | exact Below.refl _ _ | apply below_alloc | apply pw_below_drewN | apply Below.drew)) c5)⟩ (fun hHeld => ?_)
        clear hK K
        refine norm_ (a' := ?_) ?_ ?_
        rotate_left
        · show Act.put _ (some 27) _ = _
          simp only [Act.put, List.setIfInBounds_toArray, List.set_cons_zero, List.set_cons_succ, i64_w, i32_w]
          rfl
        refine pure_ (i := 4) (N := some 28) (v := ?_) (a' := ?_) #[true, true, true, true, true, false, false, true, true, true, true, true, true, false, false, false, false] rfl rfl (by kernel_rfl) (fun _ _ _ h => h) (Or.inl ⟨by rfl, ?_⟩) ?_ ?_
        rotate_left
        · intro w'
          go_simp
          with_reducible rfl
        rotate_left
        · simp only [Act.put, List.setIfInBounds_toArray, List.set_cons_zero, List.set_cons_succ, i64_w, i32_w]
          rfl
        refine pure_ (i := 5) (N := some 29) (v := ?_) (a' := ?_) #[true, true, true, true, true, true, false, true, true, true, true, true, true, false, false, false, false] rfl rfl (by kernel_rfl) (fun _ _ _ h => h) (Or.inl ⟨by rfl, ?_⟩) ?_ ?_
        rotate_left
        · intro w'
          go_simp
          with_reducible rfl
        rotate_left
        · simp only [Act.put, List.setIfInBounds_toArray, List.set_cons_zero, List.set_cons_succ, i64_w, i32_w]
          rfl
        refine take_ (i := 6) (N := some 30) (v := ?_) (a' := ?_) #[true, true, true, true, true, true, true, true, true, true, true, true, true, false, false, false, false] rfl rfl (by kernel_rfl) (fun _ _ _ h => h) (Or.inl ⟨by rfl, ?_⟩) hHeld ?_ ?_
        rotate_left
        · rintro w' ⟨s0, s1⟩
          go_simp
          with_reducible rfl
        rotate_left
        · simp only [Act.put, List.setIfInBounds_toArray, List.set_cons_zero, List.set_cons_succ, i64_w, i32_w]
          rfl
        exact norm_ (by simp only [putAll, Act.put, List.setIfInBounds_toArray, List.set_cons_zero, List.set_cons_succ]) (hCont () _ (by first | exact ⟨_, rfl, (by repeat (first | exact Below.refl _ _ | apply below_alloc | apply pw_below_drewN | apply Below.drew)), rfl⟩ | exact ⟨_, alloc_drewN1 _ _ _, (by repeat (first | exact Below.refl _ _ | apply below_alloc | apply pw_below_drewN | apply Below.drew)), rfl⟩ | exact ⟨_, alloc_drewN2 _ _ _ _, (by repeat (first | exact Below.refl _ _ | apply below_alloc | apply pw_below_drewN | apply Below.drew)), rfl⟩ | exact ⟨_, alloc_drewN3 _ _ _ _, (by repeat (first | exact Below.refl _ _ | apply below_alloc | apply pw_below_drewN | apply Below.drew)), rfl⟩))
    rintro _ w4 ⟨W, rfl, hbW, hsW⟩
    have hHeld : (W.alloc (.cells #[.int .i64 (b.t.length : Int)] 3)).cell? ⟨g, 0, none⟩ = some (.slice (some ⟨gt, 0, none⟩) b.t.length qt) ∧ (W.alloc (.cells #[.int .i64 (b.t.length : Int)] 3)).cell? ⟨gt, (topI b).toNat * 6 + 5, none⟩ = some (.slice A5 (rd_T38 b.t (topI b)).f5.length q5) := ⟨pw_cell_below (below_alloc hbW _) c0, pw_cell_below (below_alloc hbW _) c5⟩
    rw [← hsW]
    refine norm_ (a' := ?_) ?_ ?_
    rotate_left
    · simp only [putAll, Act.put, List.setIfInBounds_toArray, List.set_cons_zero, List.set_cons_succ]
      rfl
    refine one_ (i := 13) (N := some 37) #[true, true, true, true, true, true, true, true, true, true, true, true, true, true, false, false, false] rfl rfl (by kernel_rfl) (by decide) (fun K hK => ?_)
    have hRW := Kd.R_mono (Kd.R_below hR5 hbW) (fun k hk => (Or.inl hk : oki k ∨ (some k ≠ (Value.slice (some ⟨go, oo, none⟩) b.op.length co).ownBlock ∧ ¬ okA k) ∧ W.heap.size ≤ k))
    refine Kd.R_append_step (Kd.int .i64) (w0 := w0) B rfl (.tmp 30) (.tmp 36) 36 3 (.int .i64 0) 8 rfl Tryz.underlying36 info3 rfl (by decide) (by decide) (.slice A5 (rd_T38 b.t (topI b)).f5.length q5) (rd_T38 b.t (topI b)).f5 (b.t.length : Int) [.int .i64 (b.t.length : Int)] (fun k => oki k ∨ (some k ≠ (Value.slice (some ⟨go, oo, none⟩) b.op.length co).ownBlock ∧ ¬ okA k) ∧ W.heap.size ≤ k) (fun _ => False) rfl rfl rfl (fun _ hk => hk.elim) (fun k hk => Or.inr ⟨⟨fun e => by simp [Value.ownBlock] at e; omega, fun e => by have := hAlt k e; omega⟩, hk⟩) hRW (below_then hbb3.out hBw3 hbW) (Nat.le_trans hBw3 hbW.size) (by omega) ?_
    intro v6 w5 ho5 hb5 hg5 hat5
    obtain ⟨A6, q6, rfl⟩ := Kd.R_slice ho5
    rw [List.length_append, List.length_singleton] at ho5
    rw [List.length_append, List.length_singleton]
    have hB5 := blk_grown (H3.out.below hbW).box hg5 (Kd.R_ne hRW (H3.out.below hbW).box (by decide))
    have c5' := (World.cell?_of_block (a := ⟨gt, (topI b).toNat * 6 + 5, none⟩) (hg5.block gt (by omega) hgtne)).trans (pw_cell_below hbW c5)
    have f5' := (World.frozen?_of_block (a := ⟨gt, (topI b).toNat * 6 + 5, none⟩) (hg5.block gt (by omega) hgtne)).trans ((hbW.frozen (p := ⟨gt, (topI b).toNat * 6 + 5, none⟩) (show gt < w3.heap.size by omega)).trans f5)
    refine hK.out _ _ ⟨(by rw [blk_cell hB5]; rfl), c5'⟩ (fun hHeld => ?_)
    clear hK K
    refine norm_ (a' := ?_) ?_ ?_
    rotate_left
    · show Act.put _ (some 37) _ = _
      simp only [Act.put, List.setIfInBounds_toArray, List.set_cons_zero, List.set_cons_succ, i64_w, i32_w]
      rfl
    refine pure_ (i := 14) (N := some 38) (v := ?_) (a' := ?_) #[true, true, true, true, true, true, true, true, true, true, true, true, true, true, true, false, false] rfl rfl (by kernel_rfl) (fun _ _ _ h => h) (Or.inl ⟨by rfl, ?_⟩) ?_ ?_
    rotate_left
    · intro w'
      go_simp
      with_reducible rfl
    rotate_left
    · simp only [Act.put, List.setIfInBounds_toArray, List.set_cons_zero, List.set_cons_succ, i64_w, i32_w]
      rfl
    refine pure_ (i := 15) (N := some 39) (v := ?_) (a' := ?_) #[true, true, true, true, true, true, true, true, true, true, true, true, true, true, true, true, false] rfl rfl (by kernel_rfl) (fun _ _ _ h => h) (Or.inl ⟨by rfl, ?_⟩) ?_ ?_
    rotate_left
    · intro w'
      go_simp
      with_reducible rfl
    rotate_left
    · simp only [Act.put, List.setIfInBounds_toArray, List.set_cons_zero, List.set_cons_succ, i64_w, i32_w]
      rfl
    refine last_ (i := 16) (N := none) #[true, true, true, true, true, true, true, true, true, true, true, true, true, true, true, true, true] rfl rfl (by kernel_rfl) (by decide) (fun K hK => ?_)
    refine skip_ (w1 := ?_) (by rfl) rfl ?_ ?_
    rotate_left
    · go_simp
      rfl
    refine hK.out _ _ ?_
    clear hK K
    refine done_ (by kernel_rfl) ?_
    have hgtW : gt < W.heap.size := by omega
    have hHW := Kd.H_below hH hbW
    have hH5 := Kd.H_grown (Kd.H_widen hHW) hg5 (fun k hk => Or.inl (hR5.1 k hk))
    obtain ⟨v2', e2', hR2'⟩ := Kd.M_over (d := Kd.slice 40 k40) ⟨v2, rfl, Kd.R_below hR2 hbW⟩ hRW (by decide) hg5
    obtain rfl : v2 = v2' := by injection e2'
    have hM5 := k38_mkM w5 B (fun k => oki k ∨ (some k ≠ (Value.slice (some ⟨go, oo, none⟩) b.op.length co).ownBlock ∧ ¬ okA k) ∧ W.heap.size ≤ k) { rd_T38 b.t (topI b) with f5 := (rd_T38 b.t (topI b)).f5 ++ [(b.t.length : Int)] } (Kd.R_mono hR2' (fun k hk => Or.inl hk)) ho5
    obtain ⟨hS6, hg6⟩ := Kd.S_seg (okg := fun _ => False) (Kd.H_mono hH5 (fun k hk => ⟨hk, id⟩)) k2 k3 (seg := [Value.slice A6 ((rd_T38 b.t (topI b)).f5.length + 1) q6]) (j := 5) (Nat.le_refl 6) hM5 (fun k hk => Or.inl hk) (fun k hk => hk.elim)
    change Kd.S k38 38 (w5.setCell ⟨gt, (topI b).toNat * 6 + 5, none⟩ (Value.slice A6 ((rd_T38 b.t (topI b)).f5.length + 1) q6)) B _ _ _ at hS6
    change World.grownBy w5 (w5.setCell ⟨gt, (topI b).toNat * 6 + 5, none⟩ (Value.slice A6 ((rd_T38 b.t (topI b)).f5.length + 1) q6)) _ at hg6
    have hggt : some g ≠ some gt := Kd.S_ne H3.out.t H3.out.box (by decide)
    obtain ⟨tcs, htc⟩ := Kd.S_typed H3.out.t gt (by simp [Value.ownBlock])
    have hgtgo : some gt ≠ some go := Kd.Q_ne H3.out.op htc (by decide)
    have hB6 := blk_grown hB5 hg6 hggt
    have hNW : W.heap[nb]? = _ := blk_below hN3 hbW
    have hN6 := blk_grown (blk_grown hNW hg5 (Kd.R_ne hRW hNW (by decide))) hg6 (by intro e; injection e with e; omega)
    have hop6 := Kd.Q_grown1 (Kd.Q_grown1 (Kd.Q_below H3.out.op hbW) rfl hg5 (fun e => (hoki go (hR5.1 go (by rw [e]; simp [Value.ownBlock]))).1.1 (by simp [Value.ownBlock]))) rfl hg6 (by simpa [Value.ownBlock] using hgtgo)
    obtain ⟨va', ea', hA5⟩ := Kd.M_over (d := Kd.slice 40 k40) ⟨_, rfl, Kd.R_below hA3.out hbW⟩ hRW (by decide) hg5
    obtain rfl : _ = va' := by injection ea'
    have hA6 := Kd.R_grown hA5 hg6 (fun k hk => by simpa [Value.ownBlock] using (hAo k hk).2)
    have hb6 : Below B w0 (w5.setCell ⟨gt, (topI b).toNat * 6 + 5, none⟩ (Value.slice A6 ((rd_T38 b.t (topI b)).f5.length + 1) q6)) := hb5.setCell (Kd.S_base H3.out.t gt (by simp [Value.ownBlock])) _
    have hs6 : w3.heap.size ≤ (w5.setCell ⟨gt, (topI b).toNat * 6 + 5, none⟩ (Value.slice A6 ((rd_T38 b.t (topI b)).f5.length + 1) q6)).heap.size := Nat.le_trans hbW.size (Nat.le_trans hg5.size hg6.size)
    clear hM5 hH5 hHW
    generalize w5.setCell ⟨gt, (topI b).toNat * 6 + 5, none⟩ (Value.slice A6 ((rd_T38 b.t (topI b)).f5.length + 1) q6) = w6 at *
    clear hR2 hR5 hH hcc hfr c5 f5 c0 TC hbW hsW hRW ho5 hb5 hg5 hat5 hB5 c5' f5' hg6 hNW hAt3 H3
    have hBw6 : B ≤ w6.heap.size := Nat.le_trans hBw3 hs6
    go_wp2_with fail
    refine start_ (n := 11) (S := fun w' => w'.cell? ⟨g, 0, none⟩ = some (.slice (some ⟨gt, 0, none⟩) b.t.length qt) ∧ w'.cell? ⟨nb, 0, none⟩ = some (.int .u8 n.f0) ∧ w'.cell? ⟨nb, 1, none⟩ = some (.string n.f1) ∧ w'.cell? ⟨nb, 2, none⟩ = some (.slice A2 n.f2.length q2) ∧ w'.cell? ⟨nb, 3, none⟩ = some (.string n.f3) ∧ w'.cell? ⟨nb, 4, none⟩ = some (.int .i64 (topI b)) ∧ w'.cell? ⟨nb, 5, none⟩ = some (.slice none 0 0)) (ds := [10]) #[false, false, false, false, false, false, false, false, false, false, false] (by kernel_rfl) rfl rfl ⟨(show w6.cell? ⟨g, 0, none⟩ = _ by rw [blk_cell hB6]; rfl), (show w6.cell? ⟨nb, 0, none⟩ = _ by rw [blk_cell hN6]; rfl), (show w6.cell? ⟨nb, 1, none⟩ = _ by rw [blk_cell hN6]; rfl), (show w6.cell? ⟨nb, 2, none⟩ = _ by rw [blk_cell hN6]; rfl), (show w6.cell? ⟨nb, 3, none⟩ = _ by rw [blk_cell hN6]; rfl), (show w6.cell? ⟨nb, 4, none⟩ = _ by rw [blk_cell hN6]; rfl), (show w6.cell? ⟨nb, 5, none⟩ = _ by rw [blk_cell hN6]; rfl)⟩ (fun hHeld => ?_)
    refine pure_ (i := 0) (N := some 40) (v := ?_) (a' := ?_) #[true, false, false, false, false, false, false, false, false, false, false] rfl rfl (by kernel_rfl) (fun _ _ _ h => h) (Or.inl ⟨by rfl, ?_⟩) ?_ ?_
    rotate_left
    · intro w'
      go_simp
      with_reducible rfl
    rotate_left
    · simp only [Act.put, List.setIfInBounds_toArray, List.set_cons_zero, List.set_cons_succ, i64_w, i32_w]
      rfl
    refine pure_ (i := 1) (N := some 41) (v := ?_) (a' := ?_) #[true, true, false, false, false, false, false, false, false, false, false] rfl rfl (by kernel_rfl) (fun _ _ _ h => h) (Or.inl ⟨by rfl, ?_⟩) ?_ ?_
    rotate_left
    · intro w'
      go_simp
      with_reducible rfl
    rotate_left
    · simp only [Act.put, List.setIfInBounds_toArray, List.set_cons_zero, List.set_cons_succ, i64_w, i32_w]
      rfl
    refine pure_ (i := 2) (N := some 42) (v := ?_) (a' := ?_) #[true, true, true, false, false, false, false, false, false, false, false] rfl rfl (by kernel_rfl) (fun _ _ _ h => h) (Or.inl ⟨by rfl, ?_⟩) ?_ ?_
    rotate_left
    · intro w'
      go_simp
      with_reducible rfl
    rotate_left
    · simp only [Act.put, List.setIfInBounds_toArray, List.set_cons_zero, List.set_cons_succ, i64_w, i32_w]
      rfl
    refine pure_ (i := 3) (N := some 43) (v := ?_) (a' := ?_) #[true, true, true, true, false, false, false, false, false, false, false] rfl rfl (by kernel_rfl) (fun _ _ _ h => h) (Or.inl ⟨by rfl, ?_⟩) ?_ ?_
    rotate_left
    · intro w'
      go_simp
      with_reducible rfl
    rotate_left
    · simp only [Act.put, List.setIfInBounds_toArray, List.set_cons_zero, List.set_cons_succ, i64_w, i32_w]
      rfl
    refine take_ (i := 4) (N := some 44) (v := ?_) (a' := ?_) #[true, true, true, true, true, false, false, false, false, false, false] rfl rfl (by kernel_rfl) (fun _ _ _ h => h) (Or.inl ⟨by rfl, ?_⟩) hHeld ?_ ?_
    rotate_left
    · rintro w' ⟨s0, s1, s2, s3, s4, s5, s6⟩
      go_simp
      with_reducible rfl
    rotate_left
    · simp only [Act.put, List.setIfInBounds_toArray, List.set_cons_zero, List.set_cons_succ, i64_w, i32_w]
      rfl
    refine take_ (i := 5) (N := some 45) (v := ?_) (a' := ?_) #[true, true, true, true, true, true, false, false, false, false, false] rfl rfl (by kernel_rfl) (fun _ _ _ h => h) (Or.inl ⟨by rfl, ?_⟩) hHeld ?_ ?_
    rotate_left
    · rintro w' ⟨s0, s1, s2, s3, s4, s5, s6⟩
      go_simp
      with_reducible rfl
    rotate_left
    · simp only [Act.put, List.setIfInBounds_toArray, List.set_cons_zero, List.set_cons_succ, i64_w, i32_w]
      rfl
    refine one_ (i := 6) (N := some 46) #[true, true, true, true, true, true, true, false, false, false, false] rfl rfl (by kernel_rfl) (by decide) (fun K hK => ?_)
    refine value_ (w1 := ?_) (v := ?_) (by rfl) rfl ?_ ?_
    rotate_left 2
    · go_simp
      constructor
      · rfl
      · rfl
    refine hK.out _ _ ⟨(pw_cell_below (below_alloc (Below.drew (Below.refl _ _)) _) (show w6.cell? ⟨g, 0, none⟩ = _ by rw [blk_cell hB6]; rfl)), (pw_cell_below (below_alloc (Below.drew (Below.refl _ _)) _) (show w6.cell? ⟨nb, 0, none⟩ = _ by rw [blk_cell hN6]; rfl)), (pw_cell_below (below_alloc (Below.drew (Below.refl _ _)) _) (show w6.cell? ⟨nb, 1, none⟩ = _ by rw [blk_cell hN6]; rfl)), (pw_cell_below (below_alloc (Below.drew (Below.refl _ _)) _) (show w6.cell? ⟨nb, 2, none⟩ = _ by rw [blk_cell hN6]; rfl)), (pw_cell_below (below_alloc (Below.drew (Below.refl _ _)) _) (show w6.cell? ⟨nb, 3, none⟩ = _ by rw [blk_cell hN6]; rfl)), (pw_cell_below (below_alloc (Below.drew (Below.refl _ _)) _) (show w6.cell? ⟨nb, 4, none⟩ = _ by rw [blk_cell hN6]; rfl)), (pw_cell_below (below_alloc (Below.drew (Below.refl _ _)) _) (show w6.cell? ⟨nb, 5, none⟩ = _ by rw [blk_cell hN6]; rfl))⟩ (fun hHeld => ?_)
    clear hK K
    refine norm_ (a' := ?_) ?_ ?_
    rotate_left
    · show Act.put _ (some 46) _ = _
      simp only [Act.put, List.setIfInBounds_toArray, List.set_cons_zero, List.set_cons_succ, i64_w, i32_w]
      rfl
    refine one_ (i := 7) (N := some 47) #[true, true, true, true, true, true, true, true, false, false, false] rfl rfl (by kernel_rfl) (by decide) (fun K hK => ?_)
    have hM7 : (k38).M w6.drew B okA { n with f4 := topI b } [.int .u8 n.f0, .string n.f1, .slice A2 n.f2.length q2, .string n.f3, .int .i64 (topI b), .slice none 0 0] := k38_mkM w6.drew B okA { n with f4 := topI b } (Kd.R_drew hA6) (by rw [show ({ n with f4 := topI b } : NodeD).f5 = [] from HF5.out]; exact Kd.R_nil _ _ _ _ _)
    refine Kd.S_append_step k38 (w0 := w0) B rfl (.tmp 44) (.tmp 46) 28 38 (.agg #[(.int .u8 0), (.string ⟨#[]⟩), (.slice none 0 0), (.string ⟨#[]⟩), (.int .i64 0), (.slice none 0 0)]) 96 rfl Tryz.underlying28 info38 rfl (by decide) (by decide) (.slice (some ⟨gt, 0, none⟩) b.t.length qt) (b.t.set (topI b).toNat { rd_T38 b.t (topI b) with f5 := (rd_T38 b.t (topI b)).f5 ++ [(b.t.length : Int)] }) { n with f4 := topI b } [.int .u8 n.f0, .string n.f1, .slice A2 n.f2.length q2, .string n.f3, .int .i64 (topI b), .slice none 0 0] (fun k => some k ≠ (Value.slice (some ⟨go, oo, none⟩) b.op.length co).ownBlock) okA rfl rfl hM7 hAo (fun k hk => fun e => by simp [Value.ownBlock] at e; have : w6.heap.size ≤ k := hk; omega) (Kd.S_drew hS6) hb6.drew hBw6 (by rw [List.length_set]; omega) ?_
    intro v7 w8 ho8 hb8 hg8 hat8
    obtain ⟨A8, q8, rfl⟩ := Kd.S_slice ho8
    rw [List.length_append, List.length_set, List.length_singleton] at ho8
    rw [List.length_append, List.length_set, List.length_singleton]
    have hB8 := blk_grown (show w6.drew.heap[g]? = _ from hB6) hg8 (by simpa [Value.ownBlock] using hggt)
    have hN8 := blk_grown (show w6.drew.heap[nb]? = _ from hN6) hg8 (by simp [Value.ownBlock]; omega)
    have g8 := blk_frozen hB8 0
    have k8 : w8.cell? ⟨g, 0, none⟩ = some (.slice (some ⟨gt, 0, none⟩) b.t.length qt) := by rw [blk_cell hB8]; rfl
    refine hK.out _ _ ⟨k8, (by rw [blk_cell hN8]; rfl), (by rw [blk_cell hN8]; rfl), (by rw [blk_cell hN8]; rfl), (by rw [blk_cell hN8]; rfl), (by rw [blk_cell hN8]; rfl), (by rw [blk_cell hN8]; rfl)⟩ (fun hHeld => ?_)
    clear hK K
    refine norm_ (a' := ?_) ?_ ?_
    rotate_left
    · show Act.put _ (some 47) _ = _
      simp only [Act.put, List.setIfInBounds_toArray, List.set_cons_zero, List.set_cons_succ, i64_w, i32_w]
      rfl
    refine pure_ (i := 8) (N := some 48) (v := ?_) (a' := ?_) #[true, true, true, true, true, true, true, true, true, false, false] rfl rfl (by kernel_rfl) (fun _ _ _ h => h) (Or.inl ⟨by rfl, ?_⟩) ?_ ?_
    rotate_left
    · intro w'
      go_simp
      with_reducible rfl
    rotate_left
    · simp only [Act.put, List.setIfInBounds_toArray, List.set_cons_zero, List.set_cons_succ, i64_w, i32_w]
      rfl
    refine pure_ (i := 9) (N := some 49) (v := ?_) (a' := ?_) #[true, true, true, true, true, true, true, true, true, true, false] rfl rfl (by kernel_rfl) (fun _ _ _ h => h) (Or.inl ⟨by rfl, ?_⟩) ?_ ?_
    rotate_left
    · intro w'
      go_simp
      with_reducible rfl
    rotate_left
    · simp only [Act.put, List.setIfInBounds_toArray, List.set_cons_zero, List.set_cons_succ, i64_w, i32_w]
      rfl
    refine last_ (i := 10) (N := none) #[true, true, true, true, true, true, true, true, true, true, true] rfl rfl (by kernel_rfl) (by decide) (fun K hK => ?_)
    refine skip_ (w1 := ?_) (by rfl) rfl ?_ ?_
    rotate_left
    · go_simp
      rfl
    refine hK.out _ _ ?_
    clear hK K
    refine done_ (by kernel_rfl) ?_
    go_wp2
    have hop8 := Kd.Q_grown1 (Kd.Q_drew hop6) rfl hg8 (by simpa [Value.ownBlock] using hgtgo)
    go_ret
    exact ⟨rfl, ⟨_, _, blk_put hB8 0 _ rfl, Kd.S_set ho8 hB8 tE 0 _, Kd.Q_set hop8 hB8 oE 0 _⟩, hb8.setCell hB _⟩
end Go.Proofs.YtpfhgolamlnhiaaGreatDoor
