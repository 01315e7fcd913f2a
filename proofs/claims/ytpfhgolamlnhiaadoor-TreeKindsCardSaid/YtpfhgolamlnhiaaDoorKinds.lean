/- tree.Parse. -/
import Derived.Test.YtpfhgolamlnhiaaDoorTreeI
import Derived.Test.YtpfhgolamlnhiaaDoorTokS
import Derived.Test.YtpfhgolamlnhiaaDoorUtf4
import Derived.Lib.SlBytesConst
import Derived.Test.YtpfhgolamlnhiaaDoorXA
import Derived.Test.YtpfhgolamlnhiaaDoorXR
set_option linter.unusedVariables false
set_option linter.unusedSimpArgs false
namespace Go.Proofs.YtpfhgolamlnhiaaDoor
open Go.RowKit Go.Proofs.YtpfhgolamlnhiaaDoorW.PrintWords Go.Proofs.YtpfhgolamlnhiaaDoor.XT Go.Proofs.YtpfhgolamlnhiaaDoor.XA

def parseK (k : Nat) (l : List Int) : Option (List NodeD × Int × Int) :=
  (x_utfDecode.f k l).bind fun r => if r.2 ≠ 0 then some ([], r.2, 0) else if 4611686018427387904 < r.1.size then none else
    (tokensK k r.1).bind fun q => if q.2.1 ≠ 0 then some ([], q.2.1, q.2.2) else buildK k q.1
set_option maxHeartbeats 4000000 in
set_option maxRecDepth 100000 in
theorem parse_calls (k : Nat) (A0 : Option Addr) (c0 : Nat) (l0 : List Int) (t : List NodeD) (er pl : Int) (w : World) (hr0 : Kd.C (Kd.int .u8) w A0 l0.length l0) (hc0 : l0.length ≤ c0) (hG : G2 w) (h : parseK k l0 = some (t, er, pl)) :
    Calls Tryd.prog 19 #[.slice A0 l0.length c0] w fun e w' => ∃ A' c', e = .returned (.tuple #[.slice A' t.length c', .int .i64 er, .int .i64 pl]) ∧ t.length ≤ c' ∧ Kd.C k37 w' A' t.length t ∧ Below w.heap.size w w' := by
  obtain ⟨⟨s1, e1⟩, hu, h2⟩ := Option.bind_eq_some_iff.1 h
  have UC := x_utfDecode.calls k A0 c0 l0 s1 e1 w hr0 hc0 hu
  dsimp only at h2
  have HG := Lib.hid hG
  clear hr0 hc0 hu h hG
  by_cases he : e1 = 0
  · rw [if_neg (fun hh => hh he)] at h2
    split at h2
    case isTrue => cases h2
    rename_i hsz
    obtain ⟨⟨tl, e2, p2⟩, htk, h3⟩ := Option.bind_eq_some_iff.1 h2
    dsimp only at h3
    have TC := fun (w' : World) (hg : G2 w') => tokens_calls k s1 tl e2 p2 w' hg (by omega) htk
    have q1 : (e1 != 0) = false := by rw [bne_eq_false_iff_eq]; exact he
    clear h2 htk hsz he
    by_cases he2 : e2 = 0
    · rw [if_neg (fun hh => hh he2)] at h3
      have BC := fun (A : Option Addr) (c : Nat) (w' : World) (hC : Kd.C k95 w' A tl.length tl) (hc : tl.length ≤ c) => build_calls k A c tl t er pl w' hC hc h3
      have q2 : (e2 != 0) = false := by rw [bne_eq_false_iff_eq]; exact he2
      clear h3 he2
      go_enter Tryd.func19, Tryd.ntmps19
      go_wp2_with (first | (go_at_call 34; refine UC.mono ?_; rintro e w1 ⟨rfl, hb1⟩) | (go_at_call 35; refine (TC _ (HG.out.below hb1)).mono ?_; rintro e w2 ⟨A2, c2, rfl, hc2, hC2, hb2⟩) | (go_at_call 36; refine (BC _ _ _ hC2 hc2).mono ?_; rintro e w3 ⟨A3, c3, rfl, hc3, hC3, hb3⟩))
      go_ret3
      exact ⟨A3, c3, rfl, hc3, hC3, below_then (below_then hb1 hb1.size hb2) (Nat.le_trans hb1.size hb2.size) hb3⟩
    · rw [if_pos he2] at h3
      simp only [Option.some.injEq, Prod.mk.injEq] at h3
      obtain ⟨rfl, rfl, rfl⟩ := h3
      have q2 : (e2 != 0) = true := by rw [bne_iff_ne]; exact he2
      clear he2
      go_enter Tryd.func19, Tryd.ntmps19
      go_wp2_with (first | (go_at_call 34; refine UC.mono ?_; rintro e w1 ⟨rfl, hb1⟩) | (go_at_call 35; refine (TC _ (HG.out.below hb1)).mono ?_; rintro e w2 ⟨A2, c2, rfl, hc2, hC2, hb2⟩))
      go_ret3
      exact ⟨none, 0, rfl, Nat.le_refl _, Kd.C_nil _ _, below_then hb1 hb1.size hb2⟩
  · rw [if_pos he] at h2
    simp only [Option.some.injEq, Prod.mk.injEq] at h2
    obtain ⟨rfl, rfl, rfl⟩ := h2
    have q1 : (e1 != 0) = true := by rw [bne_iff_ne]; exact he
    clear he
    go_enter Tryd.func19, Tryd.ntmps19
    go_wp2_with (go_at_call 34; refine UC.mono ?_; rintro e w1 ⟨rfl, hb1⟩)
    go_ret3
    exact ⟨none, 0, rfl, Nat.le_refl _, Kd.C_nil _ _, hb1⟩
end Go.Proofs.YtpfhgolamlnhiaaDoor

set_option linter.unusedVariables false
namespace Go.Proofs.YtpfhgolamlnhiaaDoor
open Go.RowKit Go.Proofs.YtpfhgolamlnhiaaDoorW.PrintWords Go.Proofs.YtpfhgolamlnhiaaDoor.XT Go.Proofs.YtpfhgolamlnhiaaDoor.XA

def ex1 : List Int := [60, 117, 108, 62, 60, 108, 105, 62, 97, 60, 108, 105, 62, 98, 60, 47, 117, 108, 62]
def ex2 : List Int := [60, 98, 62, 60, 112, 62, 120, 60, 47, 98, 62]
/-- What works asks, of the two answers. -/
def asks05 (a b : Option (List NodeD × Int × Int)) : Bool :=
  match a, b with
  | some (t, e, _), some (_, f, p) => decide (e = 0) && (decide (t.length = 6) && (decide ((rd_T37 t 1).f5.length = 2) && (decide (rd (rd_T37 t 1).f5 1 = 4) && (decide ((rd_T37 t 5).f3.toList = [98]) && (decide (f = 51) && decide (p = 3))))))
  | _, _ => false
set_option maxRecDepth 100000 in
theorem works05 : asks05 (parseK 60 ex1) (parseK 60 ex2) = true := by decide +kernel
theorem lit_reads (w : World) (e : TypeId) (fr : Nat × Nat) (xs : List Int) (n : Nat) (hn : xs.length = n) (hm : n ≤ maxLen) : Kd.C (Kd.int .u8) (w.alloc (.cells (nums .u8 xs).toArray e fr)) (some ⟨w.heap.size, 0, none⟩) n xs := by
  refine Kd.C_of_reads (enc := Value.int .u8) (d := (0 : Int)) (h1 := fun _ => rfl) ⟨hn, by simpa [maxLen] using hm, fun _ => ⟨_, rfl, fun j hj => ?_⟩⟩
  have hh : (w.alloc (.cells (nums .u8 xs).toArray e fr)).heap[w.heap.size]? = some (.cells (nums .u8 xs).toArray e fr) := heap_alloc_new w _
  rw [add_plain, cell_of_row _ _ j _ e fr hh]
  have hj2 : j < xs.length := by omega
  simp [nums, List.getD_eq_getElem?_getD, hj2]
set_option maxHeartbeats 4000000 in
set_option maxRecDepth 100000 in
theorem works05_calls (w : World) (hG : G2 w) :
    Calls Tryd.prog 18 #[] w fun e w' => e = .returned (.bool true) ∧ Below w.heap.size w w' := by
  have hw := works05
  unfold asks05 at hw
  cases h1 : parseK 60 ex1 with
  | none => rw [h1] at hw; cases hw
  | some r1 =>
    cases h2 : parseK 60 ex2 with
    | none => rw [h1, h2] at hw; cases hw
    | some r2 =>
      rw [h1, h2] at hw
      obtain ⟨t, e1, p1⟩ := r1
      obtain ⟨t2, e2, p2⟩ := r2
      simp only [Bool.and_eq_true, decide_eq_true_eq] at hw
      obtain ⟨rfl, hl, hk, hk1, hd, rfl, rfl⟩ := hw
      have HG := Lib.hid hG
      have hlen1 : ex1.length = 19 := rfl
      have hlen2 : ex2.length = 11 := rfl
      have PC1 := parse_calls 60 (some ⟨w.heap.size, 0, none⟩) 19 ex1 t 0 p1 (w.alloc (.cells (nums .u8 ex1).toArray 5 (19, 20))) (lit_reads w 5 (19, 20) ex1 19 rfl (by decide)) (by decide) (HG.out.below (below_alloc (Below.refl _ _) _)) h1
      have PC2 := fun (w2 : World) (hg : G2 w2) => parse_calls 60 (some ⟨w2.heap.size, 0, none⟩) 11 ex2 t2 51 3 (w2.alloc (.cells (nums .u8 ex2).toArray 5 (11, 12))) (lit_reads w2 5 (11, 12) ex2 11 rfl (by decide)) (by decide) (hg.below (below_alloc (Below.refl _ _) _)) h2
      rw [hlen1] at PC1
      rw [hlen2] at PC2
      clear hlen1 hlen2
      clear h1 h2 hG
      go_enter Tryd.func18, Tryd.ntmps18
      go_wp2_with fail
      rw [Lib.run_convert_bytes_const (ht := Tryd.underlying28) (he := Tryd.underlying5)]
      simp only [Result.andThen]
      rw [Oper.upon_value]
      go_wp2_with (go_at_call 19; refine PC1.mono ?_; rintro e w1 ⟨A1, c1, rfl, hc1, hC1, hb1⟩)
      have hb1' : Below w.heap.size w w1 := below_then (below_alloc (Below.refl _ _) _) (below_alloc (Below.refl w.heap.size w) _).size hb1
      clear hb1 PC1
      rw [Lib.run_convert_bytes_const (ht := Tryd.underlying28) (he := Tryd.underlying5)]
      simp only [Result.andThen]
      rw [Oper.upon_value]
      obtain ⟨ad, B2, b2, B5, b5, rfl, y0, y1, y2, y3, y4, y5, l2, g2, l5, g5⟩ := at_T37 hC1 1 (by decide) (by rw [hl]; decide)
      obtain ⟨ad', D2, d2, D5, d5, ea, z0, z1, z2, z3, z4, z5, m2, n2, m5, n5⟩ := at_T37 hC1 5 (by decide) (by rw [hl]; decide)
      injection ea with ea
      subst ea
      rw [show (1 : Int).toNat * 6 = 6 from rfl] at y5
      rw [show (5 : Int).toNat * 6 = 30 from rfl] at z3
      rw [hk] at y5 g5
      rw [show (ad.add 6).block = ad.block from rfl, show (ad.add 6).off = ad.off + 6 from rfl] at y5
      rw [show (ad.add 30).block = ad.block from rfl, show (ad.add 30).off = ad.off + 30 from rfl] at z3
      obtain ⟨ak, ek, yk⟩ := Kd.at_int g5 1 (by decide) (by decide)
      subst ek
      rw [hk1, show (1 : Int).toNat = 1 from rfl] at yk
      change w1.cell? ⟨ak.block, ak.off + 1, none⟩ = _ at yk
      have hdd : ((rd_T37 t 5).f3.toList == ([98] : List UInt8)) = true := beq_iff_eq.mpr hd
      have hl' : ((t.length : Int) == 6) = true := by rw [hl]; rfl
      generalize (rd_T37 t 5).f3 = f3 at *
      clear y0 y1 y2 y3 y4 z0 z1 z2 z4 z5 l2 g2 m2 n2 m5 n5 hC1 hd hk hk1 g5 l5
      go_upto_region 3 with (go_at_call 19; refine (PC2 _ (HG.out.below hb1')).mono ?_; rintro e w4 ⟨A2, c2, rfl, hc2, hC2, hb2⟩)
      have hb4 : Below w1.heap.size w1 w4 := below_then (below_alloc (Below.refl _ _) _) (below_alloc (Below.refl w1.heap.size w1) _).size hb2
      have x5 := pw_cell_below hb4 y5
      have x3 := pw_cell_below hb4 z3
      have xk := pw_cell_below hb4 yk
      have hb5 := below_then hb1' hb1'.size hb4
      clear y5 z3 yk hb2 hC2 PC2
      go_wp2_with fail
      go_ret
      exact ⟨rfl, hb5⟩
end Go.Proofs.YtpfhgolamlnhiaaDoor

set_option linter.unusedVariables false
set_option linter.unusedSimpArgs false
namespace Go.Proofs.YtpfhgolamlnhiaaDoor.Kinds
open Go.RowKit Go.Proofs.YtpfhgolamlnhiaaDoor Go.Proofs.YtpfhgolamlnhiaaDoorW.PrintWords Go.Proofs.YtpfhgolamlnhiaaDoor.XT Go.Proofs.YtpfhgolamlnhiaaDoor.XA Go.Proofs.YtpfhgolamlnhiaaDoor.XR

-- The words that among compares, in their order.
mutual
def p0 : Nat → ByteArray → Int → Option (List (List UInt8))
  | 0, _, _ => none
  | k + 1, x1, x5 => if x5 < (x1.size : Int) then p1 k x1 x5 x5 else some []
def p1 : Nat → ByteArray → Int → Int → Option (List (List UInt8))
  | 0, _, _, _ => none
  | k + 1, x1, x5, x6 => if x6 < (x1.size : Int) then (if 0 ≤ x6 then (if bt x1 x6 = 32 then (if 0 ≤ x5 then (if x5 ≤ x6 then (if x6 ≤ (x1.size : Int) then (p0 k x1 (wrap64 (x6 + 1))).bind fun ps => some ((x1.extract (x5 : Int).toNat (x6 : Int).toNat).toList :: ps) else none) else none) else none) else p1 k x1 x5 (wrap64 (x6 + 1))) else none) else (if 0 ≤ x5 then (if x5 ≤ x6 then (if x6 ≤ (x1.size : Int) then (p0 k x1 (wrap64 (x6 + 1))).bind fun ps => some ((x1.extract (x5 : Int).toNat (x6 : Int).toNat).toList :: ps) else none) else none) else none)
end
theorem any_cons {x : List UInt8} {p : List UInt8} {ps : List (List UInt8)} {q : Option Bool} (h : q = some (ps.any fun p => decide (p = x))) : (if p = x then some true else q) = some ((p :: ps).any fun p => decide (p = x)) := by
  rw [List.any_cons, h]
  by_cases hp : p = x
  · rw [if_pos hp]; simp [hp]
  · rw [if_neg hp]; simp [hp]
theorem among_any (x0 x1 : ByteArray) : ∀ k, (∀ x5 ps, p0 k x1 x5 = some ps → selvedgeref05_among.l0 k x0 x1 x5 = some (ps.any fun p => decide (p = x0.toList))) ∧ (∀ x5 x6 ps, p1 k x1 x5 x6 = some ps → selvedgeref05_among.l1 k x0 x1 x5 x6 = some (ps.any fun p => decide (p = x0.toList)))
  | 0 => ⟨fun _ _ h => by simp [p0] at h, fun _ _ _ h => by simp [p1] at h⟩
  | k + 1 => by
    obtain ⟨i0, i1⟩ := among_any x0 x1 k
    refine ⟨fun x5 ps h => ?_, fun x5 x6 ps h => ?_⟩
    · rw [p0] at h
      rw [selvedgeref05_among.l0]
      split at h
      · rw [if_pos ‹_›]; exact i1 _ _ _ h
      · rw [if_neg ‹_›]; obtain rfl := Option.some.inj h; rfl
    · rw [p1] at h
      rw [selvedgeref05_among.l1]
      split at h
      · rw [if_pos ‹_›]
        split at h
        · rw [if_pos ‹_›]
          split at h
          · rw [if_pos ‹_›]
            split at h
            · rw [if_pos ‹_›]
              split at h
              · rw [if_pos ‹_›]
                split at h
                · rw [if_pos ‹_›]
                  obtain ⟨qs, h1, h2⟩ := Option.bind_eq_some_iff.1 h
                  obtain rfl := Option.some.inj h2
                  exact any_cons (i0 _ _ h1)
                · cases h
              · cases h
            · cases h
          · rw [if_neg ‹_›]; exact i1 _ _ _ h
        · cases h
      · rw [if_neg ‹_›]
        split at h
        · rw [if_pos ‹_›]
          split at h
          · rw [if_pos ‹_›]
            split at h
            · rw [if_pos ‹_›]
              obtain ⟨qs, h1, h2⟩ := Option.bind_eq_some_iff.1 h
              obtain rfl := Option.some.inj h2
              exact any_cons (i0 _ _ h1)
            · cases h
          · cases h
        · cases h
theorem among_of {L : ByteArray} {ws : List (List UInt8)} (h : p0 300 L 0 = some ws) (x0 : ByteArray) : selvedgeref05_among.f 300 x0 L = some (ws.any fun p => decide (p = x0.toList)) := (among_any x0 L 300).1 0 ws h
set_option maxRecDepth 100000 in
theorem wBlock : p0 300 ⟨#[100, 105, 118, 32, 117, 108, 32, 111, 108, 32, 115, 101, 99, 116, 105, 111, 110, 32, 97, 114, 116, 105, 99, 108, 101, 32, 104, 101, 97, 100, 101, 114, 32, 102, 111, 111, 116, 101, 114, 32, 109, 97, 105, 110, 32, 110, 97, 118, 32, 97, 115, 105, 100, 101, 32, 98, 108, 111, 99, 107, 113, 117, 111, 116, 101, 32, 102, 105, 103, 117, 114, 101]⟩ 0 = some [[100, 105, 118], [117, 108], [111, 108], [115, 101, 99, 116, 105, 111, 110], [97, 114, 116, 105, 99, 108, 101], [104, 101, 97, 100, 101, 114], [102, 111, 111, 116, 101, 114], [109, 97, 105, 110], [110, 97, 118], [97, 115, 105, 100, 101], [98, 108, 111, 99, 107, 113, 117, 111, 116, 101], [102, 105, 103, 117, 114, 101]] := by decide +kernel
set_option maxRecDepth 100000 in
theorem wHead : p0 300 ⟨#[104, 49, 32, 104, 50, 32, 104, 51, 32, 104, 52, 32, 104, 53, 32, 104, 54]⟩ 0 = some [[104, 49], [104, 50], [104, 51], [104, 52], [104, 53], [104, 54]] := by decide +kernel
set_option maxRecDepth 100000 in
theorem wInline : p0 300 ⟨#[115, 112, 97, 110, 32, 98, 32, 105, 32, 101, 109, 32, 115, 116, 114, 111, 110, 103, 32, 117, 32, 115, 32, 115, 109, 97, 108, 108, 32, 99, 111, 100, 101, 32, 98, 100, 105, 32, 98, 100, 111, 32, 97, 98, 98, 114, 32, 99, 105, 116, 101, 32, 113, 32, 115, 117, 98, 32, 115, 117, 112, 32, 109, 97, 114, 107]⟩ 0 = some [[115, 112, 97, 110], [98], [105], [101, 109], [115, 116, 114, 111, 110, 103], [117], [115], [115, 109, 97, 108, 108], [99, 111, 100, 101], [98, 100, 105], [98, 100, 111], [97, 98, 98, 114], [99, 105, 116, 101], [113], [115, 117, 98], [115, 117, 112], [109, 97, 114, 107]] := by decide +kernel
def allW : List (List UInt8) := [[112], [108, 105], [97], [98, 114], [119, 98, 114], [104, 114], [], [100, 105, 118], [117, 108], [111, 108], [115, 101, 99, 116, 105, 111, 110], [97, 114, 116, 105, 99, 108, 101], [104, 101, 97, 100, 101, 114], [102, 111, 111, 116, 101, 114], [109, 97, 105, 110], [110, 97, 118], [97, 115, 105, 100, 101], [98, 108, 111, 99, 107, 113, 117, 111, 116, 101], [102, 105, 103, 117, 114, 101], [104, 49], [104, 50], [104, 51], [104, 52], [104, 53], [104, 54], [115, 112, 97, 110], [98], [105], [101, 109], [115, 116, 114, 111, 110, 103], [117], [115], [115, 109, 97, 108, 108], [99, 111, 100, 101], [98, 100, 105], [98, 100, 111], [97, 98, 98, 114], [99, 105, 116, 101], [113], [115, 117, 98], [115, 117, 112], [109, 97, 114, 107]]

set_option maxHeartbeats 8000000 in
set_option maxRecDepth 100000 in
theorem kinds_eq (a0 : ByteArray) : ∃ r, tree_Kind.f 300 a0 = some r ∧ selvedgeref05_Kind.f 300 a0 = some r := by
  unfold selvedgeref05_Kind.f tree_Kind.f
  rw [among_of wBlock, among_of wHead, among_of wInline]
  simp only [Option.bind_some, tree_Kind.j0, tree_Kind.j1, tree_Kind.j2, selvedgeref05_Kind.j0]
  generalize a0.toList = X
  by_cases h : X ∈ allW
  · simp only [allW, List.mem_cons, List.mem_nil_iff, or_false, List.not_mem_nil] at h
    rcases h with rfl | rfl | rfl | rfl | rfl | rfl | rfl | rfl | rfl | rfl | rfl | rfl | rfl | rfl | rfl | rfl | rfl | rfl | rfl | rfl | rfl | rfl | rfl | rfl | rfl | rfl | rfl | rfl | rfl | rfl | rfl | rfl | rfl | rfl | rfl | rfl | rfl | rfl | rfl | rfl | rfl | rfl
    all_goals exact ⟨_, rfl, by decide +kernel⟩
  · have ne : ∀ c ∈ allW, ¬ X = c := fun c hc e => h (e ▸ hc)

    have n0 : ¬ X = ([112] : List UInt8) := ne _ (by decide)
    have m0 : ¬ ([112] : List UInt8) = X := fun e => n0 e.symm
    have b0 : (X == ([112] : List UInt8)) = false := beq_eq_false_iff_ne.mpr n0
    have n1 : ¬ X = ([108, 105] : List UInt8) := ne _ (by decide)
    have m1 : ¬ ([108, 105] : List UInt8) = X := fun e => n1 e.symm
    have b1 : (X == ([108, 105] : List UInt8)) = false := beq_eq_false_iff_ne.mpr n1
    have n2 : ¬ X = ([97] : List UInt8) := ne _ (by decide)
    have m2 : ¬ ([97] : List UInt8) = X := fun e => n2 e.symm
    have b2 : (X == ([97] : List UInt8)) = false := beq_eq_false_iff_ne.mpr n2
    have n3 : ¬ X = ([98, 114] : List UInt8) := ne _ (by decide)
    have m3 : ¬ ([98, 114] : List UInt8) = X := fun e => n3 e.symm
    have b3 : (X == ([98, 114] : List UInt8)) = false := beq_eq_false_iff_ne.mpr n3
    have n4 : ¬ X = ([119, 98, 114] : List UInt8) := ne _ (by decide)
    have m4 : ¬ ([119, 98, 114] : List UInt8) = X := fun e => n4 e.symm
    have b4 : (X == ([119, 98, 114] : List UInt8)) = false := beq_eq_false_iff_ne.mpr n4
    have n5 : ¬ X = ([104, 114] : List UInt8) := ne _ (by decide)
    have m5 : ¬ ([104, 114] : List UInt8) = X := fun e => n5 e.symm
    have b5 : (X == ([104, 114] : List UInt8)) = false := beq_eq_false_iff_ne.mpr n5
    have n6 : ¬ X = ([] : List UInt8) := ne _ (by decide)
    have m6 : ¬ ([] : List UInt8) = X := fun e => n6 e.symm
    have b6 : (X == ([] : List UInt8)) = false := beq_eq_false_iff_ne.mpr n6
    have n7 : ¬ X = ([100, 105, 118] : List UInt8) := ne _ (by decide)
    have m7 : ¬ ([100, 105, 118] : List UInt8) = X := fun e => n7 e.symm
    have b7 : (X == ([100, 105, 118] : List UInt8)) = false := beq_eq_false_iff_ne.mpr n7
    have n8 : ¬ X = ([117, 108] : List UInt8) := ne _ (by decide)
    have m8 : ¬ ([117, 108] : List UInt8) = X := fun e => n8 e.symm
    have b8 : (X == ([117, 108] : List UInt8)) = false := beq_eq_false_iff_ne.mpr n8
    have n9 : ¬ X = ([111, 108] : List UInt8) := ne _ (by decide)
    have m9 : ¬ ([111, 108] : List UInt8) = X := fun e => n9 e.symm
    have b9 : (X == ([111, 108] : List UInt8)) = false := beq_eq_false_iff_ne.mpr n9
    have n10 : ¬ X = ([115, 101, 99, 116, 105, 111, 110] : List UInt8) := ne _ (by decide)
    have m10 : ¬ ([115, 101, 99, 116, 105, 111, 110] : List UInt8) = X := fun e => n10 e.symm
    have b10 : (X == ([115, 101, 99, 116, 105, 111, 110] : List UInt8)) = false := beq_eq_false_iff_ne.mpr n10
    have n11 : ¬ X = ([97, 114, 116, 105, 99, 108, 101] : List UInt8) := ne _ (by decide)
    have m11 : ¬ ([97, 114, 116, 105, 99, 108, 101] : List UInt8) = X := fun e => n11 e.symm
    have b11 : (X == ([97, 114, 116, 105, 99, 108, 101] : List UInt8)) = false := beq_eq_false_iff_ne.mpr n11
    have n12 : ¬ X = ([104, 101, 97, 100, 101, 114] : List UInt8) := ne _ (by decide)
    have m12 : ¬ ([104, 101, 97, 100, 101, 114] : List UInt8) = X := fun e => n12 e.symm
    have b12 : (X == ([104, 101, 97, 100, 101, 114] : List UInt8)) = false := beq_eq_false_iff_ne.mpr n12
    have n13 : ¬ X = ([102, 111, 111, 116, 101, 114] : List UInt8) := ne _ (by decide)
    have m13 : ¬ ([102, 111, 111, 116, 101, 114] : List UInt8) = X := fun e => n13 e.symm
    have b13 : (X == ([102, 111, 111, 116, 101, 114] : List UInt8)) = false := beq_eq_false_iff_ne.mpr n13
    have n14 : ¬ X = ([109, 97, 105, 110] : List UInt8) := ne _ (by decide)
    have m14 : ¬ ([109, 97, 105, 110] : List UInt8) = X := fun e => n14 e.symm
    have b14 : (X == ([109, 97, 105, 110] : List UInt8)) = false := beq_eq_false_iff_ne.mpr n14
    have n15 : ¬ X = ([110, 97, 118] : List UInt8) := ne _ (by decide)
    have m15 : ¬ ([110, 97, 118] : List UInt8) = X := fun e => n15 e.symm
    have b15 : (X == ([110, 97, 118] : List UInt8)) = false := beq_eq_false_iff_ne.mpr n15
    have n16 : ¬ X = ([97, 115, 105, 100, 101] : List UInt8) := ne _ (by decide)
    have m16 : ¬ ([97, 115, 105, 100, 101] : List UInt8) = X := fun e => n16 e.symm
    have b16 : (X == ([97, 115, 105, 100, 101] : List UInt8)) = false := beq_eq_false_iff_ne.mpr n16
    have n17 : ¬ X = ([98, 108, 111, 99, 107, 113, 117, 111, 116, 101] : List UInt8) := ne _ (by decide)
    have m17 : ¬ ([98, 108, 111, 99, 107, 113, 117, 111, 116, 101] : List UInt8) = X := fun e => n17 e.symm
    have b17 : (X == ([98, 108, 111, 99, 107, 113, 117, 111, 116, 101] : List UInt8)) = false := beq_eq_false_iff_ne.mpr n17
    have n18 : ¬ X = ([102, 105, 103, 117, 114, 101] : List UInt8) := ne _ (by decide)
    have m18 : ¬ ([102, 105, 103, 117, 114, 101] : List UInt8) = X := fun e => n18 e.symm
    have b18 : (X == ([102, 105, 103, 117, 114, 101] : List UInt8)) = false := beq_eq_false_iff_ne.mpr n18
    have n19 : ¬ X = ([104, 49] : List UInt8) := ne _ (by decide)
    have m19 : ¬ ([104, 49] : List UInt8) = X := fun e => n19 e.symm
    have b19 : (X == ([104, 49] : List UInt8)) = false := beq_eq_false_iff_ne.mpr n19
    have n20 : ¬ X = ([104, 50] : List UInt8) := ne _ (by decide)
    have m20 : ¬ ([104, 50] : List UInt8) = X := fun e => n20 e.symm
    have b20 : (X == ([104, 50] : List UInt8)) = false := beq_eq_false_iff_ne.mpr n20
    have n21 : ¬ X = ([104, 51] : List UInt8) := ne _ (by decide)
    have m21 : ¬ ([104, 51] : List UInt8) = X := fun e => n21 e.symm
    have b21 : (X == ([104, 51] : List UInt8)) = false := beq_eq_false_iff_ne.mpr n21
    have n22 : ¬ X = ([104, 52] : List UInt8) := ne _ (by decide)
    have m22 : ¬ ([104, 52] : List UInt8) = X := fun e => n22 e.symm
    have b22 : (X == ([104, 52] : List UInt8)) = false := beq_eq_false_iff_ne.mpr n22
    have n23 : ¬ X = ([104, 53] : List UInt8) := ne _ (by decide)
    have m23 : ¬ ([104, 53] : List UInt8) = X := fun e => n23 e.symm
    have b23 : (X == ([104, 53] : List UInt8)) = false := beq_eq_false_iff_ne.mpr n23
    have n24 : ¬ X = ([104, 54] : List UInt8) := ne _ (by decide)
    have m24 : ¬ ([104, 54] : List UInt8) = X := fun e => n24 e.symm
    have b24 : (X == ([104, 54] : List UInt8)) = false := beq_eq_false_iff_ne.mpr n24
    have n25 : ¬ X = ([115, 112, 97, 110] : List UInt8) := ne _ (by decide)
    have m25 : ¬ ([115, 112, 97, 110] : List UInt8) = X := fun e => n25 e.symm
    have b25 : (X == ([115, 112, 97, 110] : List UInt8)) = false := beq_eq_false_iff_ne.mpr n25
    have n26 : ¬ X = ([98] : List UInt8) := ne _ (by decide)
    have m26 : ¬ ([98] : List UInt8) = X := fun e => n26 e.symm
    have b26 : (X == ([98] : List UInt8)) = false := beq_eq_false_iff_ne.mpr n26
    have n27 : ¬ X = ([105] : List UInt8) := ne _ (by decide)
    have m27 : ¬ ([105] : List UInt8) = X := fun e => n27 e.symm
    have b27 : (X == ([105] : List UInt8)) = false := beq_eq_false_iff_ne.mpr n27
    have n28 : ¬ X = ([101, 109] : List UInt8) := ne _ (by decide)
    have m28 : ¬ ([101, 109] : List UInt8) = X := fun e => n28 e.symm
    have b28 : (X == ([101, 109] : List UInt8)) = false := beq_eq_false_iff_ne.mpr n28
    have n29 : ¬ X = ([115, 116, 114, 111, 110, 103] : List UInt8) := ne _ (by decide)
    have m29 : ¬ ([115, 116, 114, 111, 110, 103] : List UInt8) = X := fun e => n29 e.symm
    have b29 : (X == ([115, 116, 114, 111, 110, 103] : List UInt8)) = false := beq_eq_false_iff_ne.mpr n29
    have n30 : ¬ X = ([117] : List UInt8) := ne _ (by decide)
    have m30 : ¬ ([117] : List UInt8) = X := fun e => n30 e.symm
    have b30 : (X == ([117] : List UInt8)) = false := beq_eq_false_iff_ne.mpr n30
    have n31 : ¬ X = ([115] : List UInt8) := ne _ (by decide)
    have m31 : ¬ ([115] : List UInt8) = X := fun e => n31 e.symm
    have b31 : (X == ([115] : List UInt8)) = false := beq_eq_false_iff_ne.mpr n31
    have n32 : ¬ X = ([115, 109, 97, 108, 108] : List UInt8) := ne _ (by decide)
    have m32 : ¬ ([115, 109, 97, 108, 108] : List UInt8) = X := fun e => n32 e.symm
    have b32 : (X == ([115, 109, 97, 108, 108] : List UInt8)) = false := beq_eq_false_iff_ne.mpr n32
    have n33 : ¬ X = ([99, 111, 100, 101] : List UInt8) := ne _ (by decide)
    have m33 : ¬ ([99, 111, 100, 101] : List UInt8) = X := fun e => n33 e.symm
    have b33 : (X == ([99, 111, 100, 101] : List UInt8)) = false := beq_eq_false_iff_ne.mpr n33
    have n34 : ¬ X = ([98, 100, 105] : List UInt8) := ne _ (by decide)
    have m34 : ¬ ([98, 100, 105] : List UInt8) = X := fun e => n34 e.symm
    have b34 : (X == ([98, 100, 105] : List UInt8)) = false := beq_eq_false_iff_ne.mpr n34
    have n35 : ¬ X = ([98, 100, 111] : List UInt8) := ne _ (by decide)
    have m35 : ¬ ([98, 100, 111] : List UInt8) = X := fun e => n35 e.symm
    have b35 : (X == ([98, 100, 111] : List UInt8)) = false := beq_eq_false_iff_ne.mpr n35
    have n36 : ¬ X = ([97, 98, 98, 114] : List UInt8) := ne _ (by decide)
    have m36 : ¬ ([97, 98, 98, 114] : List UInt8) = X := fun e => n36 e.symm
    have b36 : (X == ([97, 98, 98, 114] : List UInt8)) = false := beq_eq_false_iff_ne.mpr n36
    have n37 : ¬ X = ([99, 105, 116, 101] : List UInt8) := ne _ (by decide)
    have m37 : ¬ ([99, 105, 116, 101] : List UInt8) = X := fun e => n37 e.symm
    have b37 : (X == ([99, 105, 116, 101] : List UInt8)) = false := beq_eq_false_iff_ne.mpr n37
    have n38 : ¬ X = ([113] : List UInt8) := ne _ (by decide)
    have m38 : ¬ ([113] : List UInt8) = X := fun e => n38 e.symm
    have b38 : (X == ([113] : List UInt8)) = false := beq_eq_false_iff_ne.mpr n38
    have n39 : ¬ X = ([115, 117, 98] : List UInt8) := ne _ (by decide)
    have m39 : ¬ ([115, 117, 98] : List UInt8) = X := fun e => n39 e.symm
    have b39 : (X == ([115, 117, 98] : List UInt8)) = false := beq_eq_false_iff_ne.mpr n39
    have n40 : ¬ X = ([115, 117, 112] : List UInt8) := ne _ (by decide)
    have m40 : ¬ ([115, 117, 112] : List UInt8) = X := fun e => n40 e.symm
    have b40 : (X == ([115, 117, 112] : List UInt8)) = false := beq_eq_false_iff_ne.mpr n40
    have n41 : ¬ X = ([109, 97, 114, 107] : List UInt8) := ne _ (by decide)
    have m41 : ¬ ([109, 97, 114, 107] : List UInt8) = X := fun e => n41 e.symm
    have b41 : (X == ([109, 97, 114, 107] : List UInt8)) = false := beq_eq_false_iff_ne.mpr n41
    refine ⟨0, ?_, ?_⟩
    · simp only [n0, m0, b0, n1, m1, b1, n2, m2, b2, n3, m3, b3, n4, m4, b4, n5, m5, b5, n6, m6, b6, n7, m7, b7, n8, m8, b8, n9, m9, b9, n10, m10, b10, n11, m11, b11, n12, m12, b12, n13, m13, b13, n14, m14, b14, n15, m15, b15, n16, m16, b16, n17, m17, b17, n18, m18, b18, n19, m19, b19, n20, m20, b20, n21, m21, b21, n22, m22, b22, n23, m23, b23, n24, m24, b24, n25, m25, b25, n26, m26, b26, n27, m27, b27, n28, m28, b28, n29, m29, b29, n30, m30, b30, n31, m31, b31, n32, m32, b32, n33, m33, b33, n34, m34, b34, n35, m35, b35, n36, m36, b36, n37, m37, b37, n38, m38, b38, n39, m39, b39, n40, m40, b40, n41, m41, b41, if_false, ↓reduceIte, Bool.false_eq_true]
    · simp only [List.any_cons, List.any_nil, decide_false, Bool.or_false, Bool.false_or, n0, m0, b0, n1, m1, b1, n2, m2, b2, n3, m3, b3, n4, m4, b4, n5, m5, b5, n6, m6, b6, n7, m7, b7, n8, m8, b8, n9, m9, b9, n10, m10, b10, n11, m11, b11, n12, m12, b12, n13, m13, b13, n14, m14, b14, n15, m15, b15, n16, m16, b16, n17, m17, b17, n18, m18, b18, n19, m19, b19, n20, m20, b20, n21, m21, b21, n22, m22, b22, n23, m23, b23, n24, m24, b24, n25, m25, b25, n26, m26, b26, n27, m27, b27, n28, m28, b28, n29, m29, b29, n30, m30, b30, n31, m31, b31, n32, m32, b32, n33, m33, b33, n34, m34, b34, n35, m35, b35, n36, m36, b36, n37, m37, b37, n38, m38, b38, n39, m39, b39, n40, m40, b40, n41, m41, b41, if_false, ↓reduceIte, Bool.false_eq_true]
end Go.Proofs.YtpfhgolamlnhiaaDoor.Kinds

set_option linter.unusedVariables false
set_option linter.unusedSimpArgs false
namespace Go.Proofs.YtpfhgolamlnhiaaDoor.Pure
open Go.RowKit Go.Proofs.YtpfhgolamlnhiaaDoor Go.Proofs.YtpfhgolamlnhiaaDoorW.PrintWords Go.Proofs.YtpfhgolamlnhiaaDoor.XT Go.Proofs.YtpfhgolamlnhiaaDoor.XA Go.Proofs.YtpfhgolamlnhiaaDoor.XR

set_option maxHeartbeats 2000000 in
set_option maxRecDepth 100000 in
theorem treeKinds_calls (a0 : ByteArray) (w : World) (hG : G2 w) : Calls Tryd.prog 7 #[.string a0] w fun e w' => e = .returned (.bool true) ∧ Below w.heap.size w w' := by
  obtain ⟨r, h1, h2⟩ := Kinds.kinds_eq a0
  have KC := fun (w' : World) => tree_Kind.calls 300 a0 r w' h1
  have RC := fun (w' : World) => selvedgeref05_Kind.calls 300 a0 r w' h2
  have HG := Lib.hid hG
  have hq : (r == r) = true := beq_self_eq_true r
  clear h1 h2 hG
  by_cases hl : 100 < a0.size
  · have hl' : (100 : Int) < (a0.size : Int) := by omega
    clear KC RC
    go_enter Tryd.func7, Tryd.ntmps7
    go_wp2_with (go_at_call 18; refine (works05_calls _ HG.out).mono ?_; rintro e w1 ⟨rfl, hb1⟩)
    go_ret
    exact ⟨rfl, hb1⟩
  · have hl' : ¬ (100 : Int) < (a0.size : Int) := by omega
    go_enter Tryd.func7, Tryd.ntmps7
    go_wp2_with (first | (go_at_call 16; refine (KC _).mono ?_; rintro e w1 ⟨rfl, ⟨nd1, rfl⟩⟩) | (go_at_call 17; refine (RC _).mono ?_; rintro e w2 ⟨rfl, hd2⟩; have hb2 := (⟨⟨nd1, rfl⟩⟩ : Drawn0 w (w.drewN nd1)).below; have hb3 := below_then hb2 hb2.size hd2.below) | (go_at_call 18; refine (works05_calls _ (HG.out.below hb3)).mono ?_; rintro e w4 ⟨rfl, hb4⟩))
    go_ret
    exact ⟨rfl, below_then hb3 hb3.size hb4⟩
end Go.Proofs.YtpfhgolamlnhiaaDoor.Pure
