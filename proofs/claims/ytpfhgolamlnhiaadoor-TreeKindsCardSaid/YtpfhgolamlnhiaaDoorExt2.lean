/- tree.attrs: the contract, in the print's form. -/
import Derived.Test.YtpfhgolamlnhiaaDoorXA
import Derived.Test.YtpfhgolamlnhiaaDoorExt1
import Derived.Lib.Hide
import Derived.BigCall
set_option linter.unusedVariables false
set_option linter.unusedSimpArgs false
namespace Go.Proofs.YtpfhgolamlnhiaaDoor
open Go.RowKit Go.Proofs.YtpfhgolamlnhiaaDoorW.PrintWords Go.Proofs.YtpfhgolamlnhiaaDoor.XT Go.Proofs.YtpfhgolamlnhiaaDoor.XA

theorem ret_num {k : IntKind} {a b : Int} (h : a = b) : Ending.returned (.int k a) = .returned (.int k b) := by rw [h]
theorem ret_yes {a b : Bool} (h : a = b) : Ending.returned (.bool a) = .returned (.bool b) := by rw [h]

abbrev Att := S43
/-- The first place of an attribute of a name. -/
def idxN (nm : List UInt8) : List Att → Nat → Int
  | [], _ => -1
  | b :: t, i => if b.f0.toList = nm then i else idxN nm t (i + 1)
theorem idxN_range (nm : List UInt8) : ∀ (l : List Att) (i : Nat), idxN nm l i = -1 ∨ 0 ≤ idxN nm l i
  | [], i => .inl rfl
  | b :: t, i => by
    unfold idxN
    split
    · right; omega
    · exact idxN_range nm t (i + 1)
theorem idxN_any (nm : List UInt8) : ∀ (l : List Att) (i : Nat), (decide (0 ≤ idxN nm l i)) = l.any (fun b => b.f0.toList == nm)
  | [], i => rfl
  | b :: t, i => by
    unfold idxN
    by_cases h : b.f0.toList = nm
    · simp [h]
    · rw [if_neg h, idxN_any nm t (i + 1)]; simp [h]

/-- The closure: has an attribute the captured one's name? -/
theorem attrs1_any (b : Att) (g : Nat) (nm : ByteArray) (w : World) (hc : w.cell? ⟨g, 0, none⟩ = some (.string nm)) :
    Calls Tryd.prog 101 #[.agg #[.string b.f0, .string b.f1], .pointer (some ⟨g, 0, none⟩)] w fun e w' => e = .returned (.bool (b.f0.toList == nm.toList)) ∧ Below w.heap.size w w' := by
  have hu := Tryd.underlying43
  have hg : g < w.heap.size := World.block_lt_of_cell? w _ hc
  go_enter Tryd.func101, Tryd.ntmps101
  go_wp2
  go_ret
  exact ⟨rfl, below_alloc (Below.refl _ _) _⟩

theorem drop_rd (l : List Att) (i : Nat) (h : i < l.length) : l.drop i = rd_T43 l (i : Int) :: l.drop (i + 1) := by
  rw [List.drop_eq_getElem_cons h]
  congr 1
  unfold rd_T43
  simp [List.getD_eq_getElem?_getD, h]

set_option maxHeartbeats 1000000 in
set_option maxRecDepth 100000 in
theorem indexA (A : Option Addr) (c : Nat) (l : List Att) (g : Nat) (nm : ByteArray) (w : World) (hr : Kd.C k43 w A l.length l) (hc : w.cell? ⟨g, 0, none⟩ = some (.string nm)) :
    Calls Tryd.prog 118 #[.slice A l.length c, .func (.func 101) #[] #[.pointer (some ⟨g, 0, none⟩)]] w fun e w' => e = .returned (.int .i64 (idxN nm.toList l 0)) ∧ Below w.heap.size w w' := by
  have hu := Tryd.underlying43
  have hlen : l.length ≤ 9223372036854775807 := hr.2.1
  have HR := Lib.hid hr
  have HC := Lib.hid hc
  clear hr hc
  go_enter Tryd.func118, Tryd.ntmps118
  go_wp2
  go_loopw [8] (fun v wr => ∃ i : Nat, v = .int .i64 i ∧ i ≤ l.length ∧ Hid (idxN nm.toList (l.drop i) i = idxN nm.toList l 0) ∧ Hid (Below w.heap.size w wr)) (fun v wr => l.length - (intOf v).toNat)
  case atStart => exact ⟨0, rfl, Nat.zero_le _, Lib.hid rfl, Lib.hid (Below.refl _ _)⟩
  case round =>
    obtain ⟨i, rfl, hi, hid, hbw⟩ := hrel
    by_cases hlt : i < l.length
    · obtain ⟨ad, rfl, c0, c1⟩ := at_T43 (Kd.C_below HR.out hbw.out) (i : Int) (by omega) (by omega)
      simp only [Int.toNat_natCast] at c0 c1
      have hd := drop_rd l i hlt
      generalize rd_T43 l (i : Int) = b at c0 c1 hd
      have hcg : wr.cell? ⟨g, 0, none⟩ = some (.string nm) := pw_cell_below hbw.out HC.out
      by_cases he : b.f0.toList = nm.toList
      · have hb : (b.f0.toList == nm.toList) = true := by simp [he]
        have HE : Hid (idxN nm.toList (l.drop i) i = i) := Lib.hid (by rw [hd, idxN, if_pos he])
        clear he hd
        go_wp2_with (go_at_call 101; refine (attrs1_any b g nm _ hcg).mono ?_; rintro e w1 ⟨rfl, hb1⟩)
        go_ret
        exact ⟨ret_num (by rw [← hid.out, HE.out]), below_then hbw.out hbw.out.size hb1⟩
      · have hb : (b.f0.toList == nm.toList) = false := by simp [he]
        have HE : Hid (idxN nm.toList (l.drop i) i = idxN nm.toList (l.drop (i + 1)) (i + 1)) := Lib.hid (by rw [hd, idxN, if_neg he])
        clear he hd
        go_wp2_with (go_at_call 101; refine (attrs1_any b g nm _ hcg).mono ?_; rintro e w1 ⟨rfl, hb1⟩)
        go_roundw
        case rel => exact ⟨i + 1, by go_num, by omega, Lib.hid (by rw [← HE.out]; exact hid.out), Lib.hid (below_then hbw.out hbw.out.size hb1)⟩
        case measure => simp [intOf]; omega
    · obtain rfl : i = l.length := by omega
      have HE : Hid (idxN nm.toList l 0 = -1) := Lib.hid (by rw [← hid.out, List.drop_length]; rfl)
      go_wp2
      go_ret
      exact ⟨ret_num HE.out.symm, hbw.out⟩

set_option maxHeartbeats 1000000 in
set_option maxRecDepth 100000 in
theorem containsA (A : Option Addr) (c : Nat) (l : List Att) (g : Nat) (nm : ByteArray) (w : World) (hr : Kd.C k43 w A l.length l) (hc : w.cell? ⟨g, 0, none⟩ = some (.string nm)) :
    Calls Tryd.prog 100 #[.slice A l.length c, .func (.func 101) #[] #[.pointer (some ⟨g, 0, none⟩)]] w fun e w' => e = .returned (.bool (l.any fun b => b.f0.toList == nm.toList)) ∧ Below w.heap.size w w' := by
  have HF := Lib.hid (indexA A c l g nm w hr hc)
  have HA := Lib.hid (idxN_any nm.toList l 0)
  clear hr hc
  go_enter Tryd.func100, Tryd.ntmps100
  go_wp2_with (go_at_call 118; refine HF.out.mono ?_; rintro e w1 ⟨rfl, hb1⟩)
  go_ret
  exact ⟨ret_yes HA.out, hb1⟩

/-- What attrs answers: the attributes one by one; 'seen': those ahead. -/
def x_attrs.g (k : Nat) : List Att → List Att → Option Bool
  | _, [] => some true
  | seen, a :: t => (tree_named.f k a.f0).bind fun b1 => if b1 = true then ((tree_well.f a.f1).bind fun b2 => if b2 = true then (if (seen.any fun b => b.f0.toList == a.f0.toList) = true then some false else x_attrs.g k (seen ++ [a]) t) else some false) else some false
def x_attrs.f (k : Nat) (l : List Att) : Option Bool := (x_attrs.g k [] l).bind fun b => if b = true then some (decide ((l.length : Int) ≤ 16)) else some false
theorem x_attrs.mono_g (k : Nat) : ∀ (t seen : List Att), LeO (x_attrs.g k seen t) (x_attrs.g (k + 1) seen t)
  | [], seen => LeO.refl _
  | a :: t, seen => by
    unfold x_attrs.g
    refine LeO.bind (tree_named.mono _ _) (fun b1 => LeO.ite (LeO.bind (LeO.refl _) (fun b2 => LeO.ite (LeO.ite (LeO.refl _) (x_attrs.mono_g k t _)) (LeO.refl _))) (LeO.refl _))
theorem x_attrs.mono : ∀ (a0 : List Att) (k : Nat), LeO (x_attrs.f k a0) (x_attrs.f (k + 1) a0) := fun a0 k => LeO.bind (x_attrs.mono_g k a0 []) (fun _ => LeO.refl _)

set_option maxHeartbeats 4000000 in
set_option maxRecDepth 100000 in
theorem x_attrs.calls (k : Nat) (A0 : Option Addr) (c0 : Nat) (l0 : List Att) (r : Bool) (w : World) (hr0 : Kd.C k43 w A0 l0.length l0) (hc0 : l0.length ≤ c0) (h : x_attrs.f k l0 = some r) (hG1 : G1 w) :
    Calls Tryd.prog 83 #[.slice A0 l0.length c0] w fun e w' => e = .returned (.bool r) ∧ Below w.heap.size w w' := by
  have hu := Tryd.underlying43
  have hlen : l0.length ≤ 9223372036854775807 := hr0.2.1
  have HR := Lib.hid hr0
  have HH := Lib.hid h
  have HG := Lib.hid hG1
  clear hr0 h hG1
  go_enter Tryd.func83, Tryd.ntmps83
  go_wp2
  go_loopw [7] (fun v wr => ∃ i : Nat, v = .int .i64 i ∧ i ≤ l0.length ∧ Hid ((x_attrs.g k (l0.take i) (l0.drop i)).bind (fun b => if b = true then some (decide ((l0.length : Int) ≤ 16)) else some false) = some r) ∧ Hid (Below w.heap.size w wr)) (fun v wr => l0.length - (intOf v).toNat)
  case atStart => exact ⟨0, rfl, Nat.zero_le _, HH, Lib.hid (Below.refl _ _)⟩
  case round =>
    obtain ⟨i, rfl, hi, hid, hbw⟩ := hrel
    by_cases hlt : i < l0.length
    · obtain ⟨ad, rfl, e0, e1⟩ := at_T43 (Kd.C_below HR.out hbw.out) (i : Int) (by omega) (by omega)
      simp only [Int.toNat_natCast] at e0 e1
      have hd := drop_rd l0 i hlt
      have htk : l0.take (i + 1) = l0.take i ++ [rd_T43 l0 (i : Int)] := by
        rw [List.take_add_one]
        congr 1
        unfold rd_T43
        simp [List.getD_eq_getElem?_getD, hlt]
      generalize rd_T43 l0 (i : Int) = b at e0 e1 hd htk
      have H := hid.out
      rw [hd, x_attrs.g] at H
      clear hd
      have htk := Lib.hid htk
      cases hn : tree_named.f k b.f0 with
      | none => rw [hn] at H; simp at H
      | some b1 =>
      rw [hn, Option.bind_some] at H
      have HN := Lib.hid hn
      clear hn
      cases b1 with
      | false =>
        simp only [Bool.false_eq_true, if_false, Option.bind_some] at H
        obtain rfl := Option.some.inj H
        clear H
        go_wp2_with (go_at_call 99; refine (tree_named.calls k b.f0 false _ HN.out).mono ?_; rintro e w1 ⟨rfl, ⟨nd, rfl⟩⟩)
        go_ret
        exact ⟨rfl, pw_below_drewN (hbw.out.alloc hbw.out.size _) nd⟩
      | true =>
        simp only [if_true] at H
        cases hw : tree_well.f b.f1 with
        | none => rw [hw] at H; simp at H
        | some b2 =>
        rw [hw, Option.bind_some] at H
        have HW := Lib.hid hw
        clear hw
        cases b2 with
        | false =>
          simp only [Bool.false_eq_true, if_false, Option.bind_some] at H
          obtain rfl := Option.some.inj H
          clear H
          go_wp2_with (first | (go_at_call 99; refine (tree_named.calls k b.f0 true _ HN.out).mono ?_; rintro e w1 ⟨rfl, ⟨nd, rfl⟩⟩) | (go_at_call 82; refine (tree_well.calls b.f1 false _ HW.out (HG.out.below (pw_below_drewN (hbw.out.alloc hbw.out.size _) nd))).mono ?_; rintro e w2 ⟨rfl, hb2⟩))
          go_ret
          exact ⟨rfl, below_then (pw_below_drewN (hbw.out.alloc hbw.out.size _) nd) (Nat.le_trans hbw.out.size (by simp)) hb2⟩
        | true =>
          simp only [if_true] at H
          have HH2 := Lib.hid H
          clear H
          go_wp2_with (first | (go_at_call 99; refine (tree_named.calls k b.f0 true _ HN.out).mono ?_; rintro e w1 ⟨rfl, ⟨nd, rfl⟩⟩) | (go_at_call 82; refine (tree_well.calls b.f1 true _ HW.out (HG.out.below (pw_below_drewN (hbw.out.alloc hbw.out.size _) nd))).mono ?_; rintro e w2 ⟨rfl, hb2⟩))
          have hb1 : Below w.heap.size w ((wr.alloc (.cells #[.string b.f0, .string b.f1] 43)).drewN nd) := pw_below_drewN (hbw.out.alloc hbw.out.size _) nd
          have hbT : Below w.heap.size w w2 := below_then hb1 (Nat.le_trans hbw.out.size (by simp)) hb2
          have hcell : w2.cell? ⟨wr.heap.size, 0, none⟩ = some (.string b.f0) := pw_cell_below hb2 (by simp)
          have hcon := containsA (some ad) c0 (l0.take i) wr.heap.size b.f0 w2 (Kd.C_take (Kd.C_below HR.out hbT) (by omega)) hcell
          rw [List.length_take, Nat.min_eq_left hi] at hcon
          cases ha : (l0.take i).any (fun z => z.f0.toList == b.f0.toList) with
          | true =>
            rw [ha] at hcon
            have H := HH2.out
            rw [ha] at H
            simp only [if_true, Option.bind_some, Bool.false_eq_true, if_false] at H
            obtain rfl := Option.some.inj H
            clear H ha
            refine hcon.mono ?_
            clear hcon hcell
            rintro e w3 ⟨rfl, hb3⟩
            go_wp2
            go_ret
            exact ⟨rfl, below_then hbT hbT.size hb3⟩
          | false =>
            rw [ha] at hcon
            have H := HH2.out
            rw [ha] at H
            simp only [Bool.false_eq_true, if_false] at H
            have H3 : Hid ((x_attrs.g k (l0.take (i + 1)) (l0.drop (i + 1))).bind (fun b => if b = true then some (decide ((l0.length : Int) ≤ 16)) else some false) = some r) := Lib.hid (by rw [htk.out]; exact H)
            clear H ha
            refine hcon.mono ?_
            clear hcon hcell
            rintro e w3 ⟨rfl, hb3⟩
            go_wp2
            go_roundw
            case rel => exact ⟨i + 1, by go_num, by omega, H3, Lib.hid (below_then hbT hbT.size hb3)⟩
            case measure => simp [intOf]; omega
    · obtain rfl : i = l0.length := by omega
      have H := hid.out
      rw [List.drop_length, x_attrs.g] at H
      have HE := Lib.hid (Option.some.inj H)
      clear H
      go_wp2
      go_ret
      exact ⟨ret_yes HE.out, hbw.out⟩

end Go.Proofs.YtpfhgolamlnhiaaDoor
