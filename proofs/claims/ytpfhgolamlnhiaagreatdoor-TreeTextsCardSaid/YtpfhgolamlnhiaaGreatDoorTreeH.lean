/- slices.Clone of attributes. -/
import Derived.Test.YtpfhgolamlnhiaaGreatDoorTreeB
import Derived.Lib.LazyBuf
import Derived.Test.YtpfhgolamlnhiaaGreatDoorTreeE
set_option linter.unusedVariables false
set_option linter.unusedSimpArgs false
namespace Go.Proofs.YtpfhgolamlnhiaaGreatDoor
open Go.RowKit Go.Proofs.YtpfhgolamlnhiaaGreatDoorW.PrintWords Go.Proofs.YtpfhgolamlnhiaaGreatDoor.XT Go.Proofs.YtpfhgolamlnhiaaGreatDoor.XA
set_option maxHeartbeats 4000000 in
set_option maxRecDepth 100000 in
theorem clone_calls (A : Option Addr) (c : Nat) (l : List S40) (w : World) (hr : Kd.C k40 w A l.length l) (hc : l.length ≤ c) (hl : l.length ≤ 65536) :
    Calls Tryz.prog 74 #[.slice A l.length c] w fun e w' => ∃ v, e = .returned v ∧ Kd.R k40 40 w' w.heap.size (fun _ => True) v l ∧ Below w.heap.size w w' := by
  have HR := Lib.hid hr
  clear hr
  have hlen : l.length ≤ 9223372036854775807 := HR.out.2.1
  cases A with
  | none =>
    have hl0 : l = [] := by
      by_cases h0 : 0 < l.length
      · obtain ⟨ad, e, _⟩ := HR.out.2.2 h0
        cases e
      · exact List.length_eq_zero_iff.1 (by omega)
    subst hl0
    go_enter Tryz.func74, Tryz.ntmps74
    go_wp2_with fail
    rw [Lib.run_eql_slice_nil (h := Tryz.underlying23)]
    simp only [Result.andThen]
    rw [Oper.upon_value]
    go_wp2_with fail
    go_ret
    exact ⟨_, rfl, Kd.R_nil _ _ _ _ _, Below.refl _ _⟩
  | some ad =>
    have hA : Below w.heap.size w (w.alloc (.cells #[] 40)) := below_alloc (Below.refl _ _) _
    have hE : Kd.R k40 40 (w.alloc (.cells #[] 40)) w.heap.size (fun _ => True) (.slice (some ⟨w.heap.size, 0, none⟩) 0 0) [] := ⟨fun _ _ => trivial, [], World.ownsRow_lit (base := w.heap.size) (e := 40) (size := 2) w #[] 0 (Nat.le_refl _) (by decide) (by decide), ⟨rfl, fun j p h => by simp at h⟩⟩
    have HR2 := Kd.C_below HR.out hA
    go_enter Tryz.func74, Tryz.ntmps74
    go_wp2_with fail
    rw [Lib.run_eql_slice_nil (h := Tryz.underlying23)]
    simp only [Result.andThen]
    rw [Oper.upon_value]
    go_wp2_with ((with_reducible refine gate_dst (N := 7) rfl ?_); (try (refine gate_guard (by rfl) ?_; dsimp only)); refine Kd.R_append_rows k40 (w0 := w) (Rr := (k40).K (w.alloc (.cells #[] 40))) w.heap.size rfl (.tmp 5) (.tmp 6) 23 40 (.agg #[(.string ⟨#[]⟩), (.string ⟨#[]⟩)]) 32 rfl Tryz.underlying23 info40 rfl (by decide) (by decide) (.slice (some ⟨w.heap.size, 0, none⟩) 0 0) [] l (some ad) l.length c (fun _ => True) (fun _ => False) rfl rfl hE HR2 (fun x cs h => by rw [k40_open h]; exact k40_mkM _ _ _ x) (fun _ hk => hk.elim) (fun _ _ => trivial) hA hA.size (by simp; omega) ?_; intro v1 w1 ho1 hb1 hg1 hat1)
    go_ret
    exact ⟨v1, rfl, ho1, hb1⟩
end Go.Proofs.YtpfhgolamlnhiaaGreatDoor

set_option linter.unusedVariables false
set_option linter.unusedSimpArgs false
namespace Go.Proofs.YtpfhgolamlnhiaaGreatDoor
open Go.RowKit Go.Proofs.YtpfhgolamlnhiaaGreatDoorW.PrintWords Go.Proofs.YtpfhgolamlnhiaaGreatDoorW.PrintLast Go.Proofs.YtpfhgolamlnhiaaGreatDoor.XT Go.Proofs.YtpfhgolamlnhiaaGreatDoor.XA

/-- Behind the item. -/
def afterB (k : Nat) (kd : Int) (b : Bs) (tok : S25) : Option (Int × Bs) :=
  (tree_ends.f kd).bind fun en => (if en = true then hasB b wP else some false).bind fun hp =>
  if hp = true then (topName b).bind fun nm => if nm.toList = wP then putB k kd (popB b) tok else some (51, b) else putB k kd b tok
theorem addB_op {b : Bs} {n : NodeD} {r : Int × Bs} (h : addB b n = some r) : r.2.op = b.op := by
  unfold addB at h
  split at h
  · obtain rfl := Option.some.inj h; rfl
  · split at h
    · obtain rfl := Option.some.inj h; rfl
    · cases h
/-- A builder, and a token in block tb. -/
structure StAt (g tb : Nat) (b : Bs) (tok : S25) (At : Option Addr) (ct : Nat) (w0 w : World) : Prop where
  bd : BdEx w0.heap.size g b w
  below : Below w0.heap.size w0 w
  tk : w.heap[tb]? = some (.cells #[.int .u8 tok.f0, .string tok.f1, .slice At tok.f2.length ct, .bool tok.f3, .string tok.f4] 25 (0, 0))
theorem StAt.later {g tb : Nat} {b : Bs} {tok : S25} {At : Option Addr} {ct : Nat} {w0 w w' : World} (h : StAt g tb b tok At ct w0 w) (hb : Below w.heap.size w w') : StAt g tb b tok At ct w0 w' :=
  ⟨h.bd.below hb, below_then h.below h.below.size hb, blk_below h.tk hb⟩
theorem StAt.drewN {g tb : Nat} {b : Bs} {tok : S25} {At : Option Addr} {ct : Nat} {w0 w : World} (h : StAt g tb b tok At ct w0 w) (n : Nat) : StAt g tb b tok At ct w0 (w.drewN n) := h.later (pw_below_drewN (Below.refl _ _) n)
theorem StAt.keep {g tb : Nat} {b b' : Bs} {tok : S25} {At : Option Addr} {ct : Nat} {w0 w w' : World} (h : StAt g tb b tok At ct w0 w) (hne : tb ≠ g) (hb : BdEx w0.heap.size g b' w') (hbl : Below w0.heap.size w0 w') (hk : KeepBut w w' g none) : StAt g tb b' tok At ct w0 w' :=
  ⟨hb, hbl, hk.blk h.tk hne (by simp)⟩
theorem StAt.cell {g tb : Nat} {b : Bs} {tok : S25} {At : Option Addr} {ct : Nat} {w0 w : World} (h : StAt g tb b tok At ct w0 w) (j : Nat) : w.cell? ⟨tb, j, none⟩ = (#[.int .u8 tok.f0, .string tok.f1, .slice At tok.f2.length ct, .bool tok.f3, .string tok.f4] : Array Value)[j]? := blk_cell h.tk j
set_option maxHeartbeats 8000000 in
set_option maxRecDepth 100000 in
theorem start2_calls (g k : Nat) (b : Bs) (tok : S25) (At : Option Addr) (ct : Nat) (r : Int × Bs) (w0 w : World) (h : BdEx w0.heap.size g b w) (hb : Below w0.heap.size w0 w) (hB : w0.heap.size ≤ g) (hC : Kd.C k40 w0 At tok.f2.length tok.f2) (hc : tok.f2.length ≤ ct)
    (hr : startB k b tok = some r) :
    Calls Tryz.prog 39 #[.pointer (some ⟨g, 0, none⟩), .agg #[.int .u8 tok.f0, .string tok.f1, .slice At tok.f2.length ct, .bool tok.f3, .string tok.f4]] w fun e w' => e = .returned (.int .i64 r.1) ∧ (r.1 = 0 → BdEx w0.heap.size g r.2 w') ∧ Below w0.heap.size w0 w' := by
  have hBw : w0.heap.size ≤ w.heap.size := hb.size
  have hgw : g < w.heap.size := by
    obtain ⟨vt, vo, h⟩ := h
    exact blk_lt h.box
  obtain ⟨kd, hkd, hr2⟩ := Option.bind_eq_some_iff.1 hr
  have KC := fun (w1 : World) => tree_Kind.calls k tok.f1 kd w1 hkd
  have hN := blk_new w (.cells #[.int .u8 tok.f0, .string tok.f1, .slice At tok.f2.length ct, .bool tok.f3, .string tok.f4] 25)
  have hW : Below w.heap.size w (w.alloc (.cells #[.int .u8 tok.f0, .string tok.f1, .slice At tok.f2.length ct, .bool tok.f3, .string tok.f4] 25)) := below_alloc (Below.refl _ _) _
  have H := Lib.hid (h.below hW)
  have HB := Lib.hid (below_then hb hBw hW)
  have HC := Lib.hid hC
  have HCc := Lib.hid hc
  have n1 : (w.alloc (.cells #[.int .u8 tok.f0, .string tok.f1, .slice At tok.f2.length ct, .bool tok.f3, .string tok.f4] 25)).cell? ⟨w.heap.size, 1, none⟩ = some (.string tok.f1) := by rw [blk_cell hN]; rfl
  have n3 : (w.alloc (.cells #[.int .u8 tok.f0, .string tok.f1, .slice At tok.f2.length ct, .bool tok.f3, .string tok.f4] 25)).cell? ⟨w.heap.size, 3, none⟩ = some (.bool tok.f3) := by rw [blk_cell hN]; rfl
  have HR := Lib.hid hr2
  clear h hb hC hc hr hr2 hkd hW
  go_enter Tryz.func39, Tryz.ntmps39
  go_upto_block 0 with (go_at_call 57; refine (KC _).mono ?_; rintro e w1 ⟨rfl, hd1⟩)
  have HS := Lib.hid (show StAt g w.heap.size b tok At ct w0 w1 from ⟨H.out.below hd1.below, below_then HB.out HB.out.size hd1.below, blk_below hN hd1.below⟩)
  have hne : w.heap.size ≠ g := by omega
  clear H HB n1 n3 hN hd1 KC hgw hBw
  generalize w.heap.size = tb at *
  go_cut [6] from 11 to 28 (fun v6 wd => ∃ b2, Hid (StAt g tb b2 tok At ct w0 wd) ∧ Hid (afterB k kd b2 tok = some r))
  case first =>
    have hr := HR.out
    by_cases h0 : kd = 0
    · rw [if_pos h0] at hr
      obtain rfl := Option.some.inj hr
      have q0 : (kd == 0) = true := beq_iff_eq.mpr h0
      clear hr h0
      go_wp2_with fail
      go_ret
      exact ⟨rfl, HS.out.below⟩
    · rw [if_neg h0] at hr
      have q0 : (kd == 0) = false := beq_eq_false_iff_ne.mpr h0
      have n3 : w1.cell? ⟨tb, 3, none⟩ = some (.bool tok.f3) := HS.out.cell 3
      by_cases hf : tok.f3 = true ∧ kd < 7
      · rw [if_pos hf] at hr
        obtain rfl := Option.some.inj hr
        rw [hf.1] at n3
        have h7 := hf.2
        clear hr h0 hf
        go_wp2_with fail
        go_ret
        exact ⟨rfl, HS.out.below⟩
      · rw [if_neg hf] at hr
        obtain ⟨r1, hr1, hr2⟩ := Option.bind_eq_some_iff.1 hr
        have hn7 : tok.f3 = true → ¬ kd < 7 := fun h1 h2 => hf ⟨h1, h2⟩
        clear hr hf h0
        by_cases h3 : kd = 3
        · rw [if_pos h3] at hr1
          have q3 : (kd == 3) = true := beq_iff_eq.mpr h3
          have IC := fun (w' : World) (h' : StAt g tb b tok At ct w0 w') => item_calls w0.heap.size g k b r1 w0 w' h'.bd h'.below hB h'.below.size hr1
          by_cases he : r1.1 = 0
          · rw [if_neg (by omega)] at hr2
            have HA : Hid (afterB k kd r1.2 tok = some r) := Lib.hid hr2
            have qe : (r1.1 != 0) = false := by rw [bne_eq_false_iff_eq]; exact he
            clear hr2 hr1 h3
            rcases (Bool.eq_false_or_eq_true tok.f3).symm with hx | hx
            · rw [hx] at n3
              clear hx
              go_wp2_with (go_at_call 68; refine (IC _ HS.out).mono ?_; rintro e w3 ⟨rfl, h4, b4, k4⟩)
              go_meet
              case rel => exact ⟨_, Lib.hid (HS.out.keep hne h4 b4 k4), HA⟩
            · rw [hx] at n3
              have h7 := hn7 hx
              clear hx
              go_wp2_with (go_at_call 68; refine (IC _ HS.out).mono ?_; rintro e w3 ⟨rfl, h4, b4, k4⟩)
              go_meet
              case rel => exact ⟨_, Lib.hid (HS.out.keep hne h4 b4 k4), HA⟩
          · rw [if_pos he] at hr2
            obtain rfl := Option.some.inj hr2
            have qe : (r1.1 != 0) = true := by rw [bne_iff_ne]; exact he
            clear hr2 hr1 h3
            rcases (Bool.eq_false_or_eq_true tok.f3).symm with hx | hx
            · rw [hx] at n3
              clear hx
              go_wp2_with (go_at_call 68; refine (IC _ HS.out).mono ?_; rintro e w3 ⟨rfl, h4, b4, k4⟩)
              go_ret
              exact ⟨rfl, fun h => absurd h he, b4⟩
            · rw [hx] at n3
              have h7 := hn7 hx
              clear hx
              go_wp2_with (go_at_call 68; refine (IC _ HS.out).mono ?_; rintro e w3 ⟨rfl, h4, b4, k4⟩)
              go_ret
              exact ⟨rfl, fun h => absurd h he, b4⟩
        · rw [if_neg h3] at hr1
          obtain rfl := Option.some.inj hr1
          rw [if_neg (show ¬ ((0 : Int), b).1 ≠ 0 from fun h => h rfl)] at hr2
          have HA : Hid (afterB k kd b tok = some r) := Lib.hid hr2
          have q3 : (kd == 3) = false := beq_eq_false_iff_ne.mpr h3
          clear hr2 hr1 h3
          rcases (Bool.eq_false_or_eq_true tok.f3).symm with hx | hx
          · rw [hx] at n3
            clear hx
            go_wp2_with fail
            go_meet
            case rel => exact ⟨_, HS, HA⟩
          · rw [hx] at n3
            have h7 := hn7 hx
            clear hx
            go_wp2_with fail
            go_meet
            case rel => exact ⟨_, HS, HA⟩
  case rest =>
    obtain ⟨b2, HS2, HA⟩ := hcut
    clear HS HR
    obtain ⟨en, hen, hr2⟩ := Option.bind_eq_some_iff.1 HA.out
    obtain ⟨hp, hhp, hr3⟩ := Option.bind_eq_some_iff.1 hr2
    have HEN := Lib.hid hen
    have HHP := Lib.hid hhp
    have HR3 := Lib.hid hr3
    clear HA hr2 hen hhp hr3
    go_upto_region 10 with fail
    go_cut [34] from 29 to 33 (fun v34 wd => v34 = .bool hp ∧ Hid (StAt g tb b2 tok At ct w0 wd))
    case first =>
      have EC := fun (w1 : World) => tree_ends.calls kd en w1 HEN.out
      have eP : (⟨#[112]⟩ : ByteArray).toList = wP := by decide +kernel
      have hhp := HHP.out
      cases en
      · rw [if_neg (by decide)] at hhp
        obtain rfl := Option.some.inj hhp
        clear hhp eP
        go_wp2_with (go_at_call 69; refine (EC _).mono ?_; rintro e w3 ⟨rfl, ⟨nd3, rfl⟩⟩)
        go_meet
        case rel => exact ⟨rfl, Lib.hid (HS2.out.drewN _)⟩
      · rw [if_pos rfl] at hhp
        have HC2 := fun (w' : World) (h' : StAt g tb b2 tok At ct w0 w') => has_calls2 w0.heap.size g b2 ⟨#[112]⟩ hp w0 w' h'.bd (by rw [eP]; exact hhp)
        clear eP hhp
        go_wp2_with (first | (go_at_call 69; refine (EC _).mono ?_; rintro e w3 ⟨rfl, ⟨nd3, rfl⟩⟩) | (go_at_call 70; refine (HC2 _ (HS2.out.drewN _)).mono ?_; rintro e w4 ⟨rfl, hb4⟩))
        all_goals go_meet
        all_goals exact ⟨rfl, Lib.hid ((HS2.out.drewN _).later hb4)⟩
    case rest =>
    obtain ⟨rfl, HS4⟩ := hcut
    clear HS2 HEN HHP
    have HS2 := HS4
    clear HS4
    go_upto_if 34 with fail
    go_cut [35] from 36 to 42 (fun v35 wd => ∃ b3, Hid (StAt g tb b3 tok At ct w0 wd) ∧ Hid (putB k kd b3 tok = some r))
    case first =>
      have hr3 := HR3.out
      cases hp
      · rw [if_neg (by decide)] at hr3
        have HP := Lib.hid hr3
        clear hr3
        go_wp2_with fail
        go_meet
        case rel => exact ⟨_, HS2, HP⟩
      · rw [if_pos rfl] at hr3
        obtain ⟨nm, hnm, hr4⟩ := Option.bind_eq_some_iff.1 hr3
        have PC := fun (w' : World) (h' : StAt g tb b2 tok At ct w0 w') (ho : 0 < b2.op.length) => pop_calls w0.heap.size g b2 w0 w' h'.bd ho h'.below hB
        obtain ⟨gt, qt, vo2, hA4, hok4, kn4⟩ := HS2.out.bd.top hnm
        have TC4 := top_calls w0.heap.size g gt qt b2 vo2 _ hA4 hok4
        have hop4 := hok4.1
        clear hr3 hnm hA4 hok4 HR3
        by_cases hpp : nm.toList = wP
        · rw [if_pos hpp] at hr4
          have HP := Lib.hid hr4
          have q1 : (nm.toList != ([112] : List UInt8)) = false := bne_eq_false_iff_eq.mpr hpp
          have q2 : (nm.toList == ([112] : List UInt8)) = true := beq_iff_eq.mpr hpp
          clear hr4 hpp
          go_wp2_with (first | (go_at_call 71; refine TC4.mono ?_; rintro e w5 ⟨rfl, ⟨nd5, rfl⟩⟩) | (go_at_call 72; refine (PC _ (HS2.out.drewN _) hop4).mono ?_; rintro e w6 ⟨rfl, h6, b6, k6⟩))
          go_meet
          case rel => exact ⟨_, Lib.hid ((HS2.out.drewN _).keep hne h6 b6 k6), HP⟩
        · rw [if_neg hpp] at hr4
          obtain rfl := Option.some.inj hr4
          have q1 : (nm.toList != ([112] : List UInt8)) = true := bne_iff_ne.mpr hpp
          have q2 : (nm.toList == ([112] : List UInt8)) = false := beq_eq_false_iff_ne.mpr hpp
          clear hr4 hpp
          go_wp2_with (go_at_call 71; refine TC4.mono ?_; rintro e w5 ⟨rfl, ⟨nd5, rfl⟩⟩)
          go_ret
          exact ⟨rfl, (HS2.out.drewN _).below⟩
    case rest =>
      obtain ⟨b3, HS3, HP⟩ := hcut
      clear HS2 HR3
      have hr := HP.out
      unfold putB at hr
      split at hr
      case isTrue => cases hr
      rename_i hal
      have HAL := Lib.hid hal
      obtain ⟨h4, hh4, hr2⟩ := Option.bind_eq_some_iff.1 hr
      have HH4 := Lib.hid hh4
      have HR2 := Lib.hid hr2
      clear hr HP hal hh4 hr2
      go_upto_block 1 with fail
      go_cut [43] from 44 to 67 (fun v43 wd => Hid (StAt g tb b3 tok At ct w0 wd) ∧ Hid ((addB b3 ⟨1, tok.f1, tok.f2, ⟨#[]⟩, 0, []⟩).bind (fun r1 => if r1.1 = 0 ∧ kd < 7 then some (0, ⟨r1.2.t, r1.2.op ++ [(r1.2.t.length : Int) - 1]⟩) else some r1) = some r) ∧ b3.op.length ≤ 200)
      case first =>
        have hr2 := HR2.out
        have hh4 := HH4.out
        clear HR2 HH4
        obtain ⟨vt3, vo3, hB3⟩ := HS3.out.bd
        obtain ⟨Ao, co, rfl, -⟩ := Kd.Q_slice hB3.op
        have c1 := hB3.cell1
        clear hB3
        have eA : (⟨#[97]⟩ : ByteArray).toList = wA := by decide +kernel
        have AC := fun (v : Bool) (hv : hasB b3 wA = some v) (w' : World) (h' : StAt g tb b3 tok At ct w0 w') => has_calls2 w0.heap.size g b3 ⟨#[97]⟩ v w0 w' h'.bd (by rw [eA]; exact hv)
        clear eA
        by_cases k4 : kd = 4
        · have q4 : (kd == 4) = true := beq_iff_eq.mpr k4
          have q6 : (kd == 6) = false := beq_eq_false_iff_ne.mpr (by omega)
          rw [if_pos k4] at hh4
          obtain ⟨nm, hnm, hh5⟩ := Option.bind_eq_some_iff.1 hh4
          obtain ⟨q, hq, hh6⟩ := Option.bind_eq_some_iff.1 hh5
          obtain ⟨gt, qt, vo2, hA4, hok4, kn4⟩ := HS3.out.bd.top hnm
          have TC4 := top_calls w0.heap.size g gt qt b3 vo2 _ hA4 hok4
          have KC4 := fun (w' : World) => tree_Kind.calls k nm q w' hq
          have hd4 : decide (q = 4) = h4 := Option.some.inj hh6
          clear hh4 hh5 hh6 hnm hA4 hok4 hq
          by_cases hq4 : q = 4
          · have hx : h4 = true := by rw [← hd4]; simpa using hq4
            rw [if_pos hx] at hr2
            obtain rfl := Option.some.inj hr2
            have qq : (q == 4) = true := beq_iff_eq.mpr hq4
            clear hr2 hd4 hx hq4 k4
            go_wp2_with (first | (go_at_call 71; refine TC4.mono ?_; rintro e w5 ⟨rfl, ⟨nd5, rfl⟩⟩) | (go_at_call 57; refine (KC4 _).mono ?_; rintro e w6 ⟨rfl, ⟨nd6, rfl⟩⟩))
            go_ret
            exact ⟨rfl, by first | exact (HS3.out.drewN _).below | exact ((HS3.out.drewN _).drewN _).below⟩
          · have hx : ¬ h4 = true := by rw [← hd4]; simpa using hq4
            have k6 : ¬ kd = 6 := by omega
            rw [if_neg hx, if_neg k6, Option.bind_some, if_neg (by decide)] at hr2
            have qq : (q == 4) = false := beq_eq_false_iff_ne.mpr hq4
            clear hd4 hx hq4 k4 k6
            by_cases h200 : 200 < b3.op.length
            · rw [if_pos h200] at hr2
              obtain rfl := Option.some.inj hr2
              have hl : (200 : Int) < (b3.op.length : Int) := by omega
              clear hr2 h200
              go_wp2_with (first | (go_at_call 71; refine TC4.mono ?_; rintro e w5 ⟨rfl, ⟨nd5, rfl⟩⟩) | (go_at_call 57; refine (KC4 _).mono ?_; rintro e w6 ⟨rfl, ⟨nd6, rfl⟩⟩))
              go_ret
              exact ⟨rfl, (show StAt g tb b3 tok At ct w0 _ from (by first | exact HS3.out.drewN _ | exact (HS3.out.drewN _).drewN _)).below⟩
            · rw [if_neg h200] at hr2
              have hl : ¬ (200 : Int) < (b3.op.length : Int) := by omega
              have HX2 := Lib.hid hr2
              clear hr2
              go_wp2_with (first | (go_at_call 71; refine TC4.mono ?_; rintro e w5 ⟨rfl, ⟨nd5, rfl⟩⟩) | (go_at_call 57; refine (KC4 _).mono ?_; rintro e w6 ⟨rfl, ⟨nd6, rfl⟩⟩))
              go_meet
              case rel => exact ⟨Lib.hid ((by first | exact HS3.out.drewN _ | exact (HS3.out.drewN _).drewN _)), HX2, Nat.le_of_not_lt h200⟩
        · have q4 : (kd == 4) = false := beq_eq_false_iff_ne.mpr k4
          rw [if_neg k4] at hh4
          obtain rfl := Option.some.inj hh4
          rw [if_neg (by decide)] at hr2
          clear hh4 k4
          by_cases k6 : kd = 6
          · have q6 : (kd == 6) = true := beq_iff_eq.mpr k6
            rw [if_pos k6] at hr2
            obtain ⟨ha, hha, hr3⟩ := Option.bind_eq_some_iff.1 hr2
            have HC6 := AC ha hha _ HS3.out
            clear AC hr2 k6 hha
            cases ha
            · rw [if_neg (by decide)] at hr3
              have hr2 := hr3
              clear hr3
              by_cases h200 : 200 < b3.op.length
              · rw [if_pos h200] at hr2
                obtain rfl := Option.some.inj hr2
                have hl : (200 : Int) < (b3.op.length : Int) := by omega
                clear hr2 h200
                go_wp2_with (go_at_call 70; refine HC6.mono ?_; rintro e w5 ⟨rfl, hb5⟩; have c1' := pw_cell_below hb5 c1)
                go_ret
                exact ⟨rfl, (show StAt g tb b3 tok At ct w0 _ from (HS3.out.later hb5)).below⟩
              · rw [if_neg h200] at hr2
                have hl : ¬ (200 : Int) < (b3.op.length : Int) := by omega
                have HX2 := Lib.hid hr2
                clear hr2
                go_wp2_with (go_at_call 70; refine HC6.mono ?_; rintro e w5 ⟨rfl, hb5⟩; have c1' := pw_cell_below hb5 c1)
                go_meet
                case rel => exact ⟨Lib.hid ((HS3.out.later hb5)), HX2, Nat.le_of_not_lt h200⟩
            · rw [if_pos rfl] at hr3
              obtain rfl := Option.some.inj hr3
              clear hr3
              go_wp2_with (go_at_call 70; refine HC6.mono ?_; rintro e w5 ⟨rfl, hb5⟩)
              go_ret
              exact ⟨rfl, (HS3.out.later hb5).below⟩
          · have q6 : (kd == 6) = false := beq_eq_false_iff_ne.mpr k6
            rw [if_neg k6, Option.bind_some, if_neg (by decide)] at hr2
            clear k6 AC
            by_cases h200 : 200 < b3.op.length
            · rw [if_pos h200] at hr2
              obtain rfl := Option.some.inj hr2
              have hl : (200 : Int) < (b3.op.length : Int) := by omega
              clear hr2 h200
              go_wp2_with fail
              go_ret
              exact ⟨rfl, (show StAt g tb b3 tok At ct w0 _ from HS3.out).below⟩
            · rw [if_neg h200] at hr2
              have hl : ¬ (200 : Int) < (b3.op.length : Int) := by omega
              have HX2 := Lib.hid hr2
              clear hr2
              go_wp2_with fail
              go_meet
              case rel => exact ⟨Lib.hid (HS3.out), HX2, Nat.le_of_not_lt h200⟩
      case rest =>
        obtain ⟨HS5, HP5, h200⟩ := hcut
        clear HS3 HR2 HH4
        obtain ⟨r1, hr1, hr2⟩ := Option.bind_eq_some_iff.1 HP5.out
        have hop5 := Lib.hid (addB_op hr1)
        have hcd := HS5.out.drewN 1
        change StAt g tb b3 tok At ct w0 wc.drew at hcd
        obtain ⟨vt, vo, hA⟩ := hcd.bd
        have CC := clone_calls At ct tok.f2 wc.drew (Kd.C_below HC.out hcd.below) HCc.out (by have := HAL.out; omega)
        have hBd : w0.heap.size ≤ wc.drew.heap.size := hcd.below.size
        have AC := fun (v5 : Value) (w5 : World) (hv5 : Kd.R k40 40 w5 wc.drew.heap.size (fun _ => True) v5 tok.f2) (hb5 : Below wc.drew.heap.size wc.drew w5) =>
          add_calls w0.heap.size g b3 ⟨1, tok.f1, tok.f2, ⟨#[]⟩, 0, []⟩ 0 v5 (fun k => wc.drew.heap.size ≤ k ∧ k < w5.heap.size) r1 vt vo w0 w5 (hA.below hb5) (below_then hcd.below hBd hb5) hB rfl (Kd.R_lower (Kd.R_mono (Kd.R_bound hv5) (fun k hk => ⟨hk.2.1, hk.2.2.1⟩)) hBd) (fun k hk => hk.2)
            (Kd.S_mono (Kd.S_below (Kd.S_bound hA.t) hb5) (fun k hk => ⟨hk.1, fun ho => by have := hk.2.2.1; omega⟩)) (fun k hk => ⟨fun e => by have := Kd.Q_lt hA.op k e.symm; omega, fun e => by have := Kd.S_lt hA.t k e.symm; omega⟩) (Nat.le_trans hBd hb5.size) hr1
        clear HP5 hr1 HC HCc HAL
        go_wp2_with fail
        refine start_ (n := 9) (S := fun w' => w'.cell? ⟨tb, 1, none⟩ = some (.string tok.f1) ∧ w'.cell? ⟨tb, 2, none⟩ = some (.slice At tok.f2.length ct)) (ds := [7]) #[false, false, false, false, false, false, false, false, false] (by kernel_rfl) rfl rfl ⟨(hcd.cell 1), (hcd.cell 2)⟩ (fun hHeld => ?_)
        refine pure_ (i := 0) (N := some 68) (v := ?_) (a' := ?_) #[true, false, false, false, false, false, false, false, false] rfl rfl (by kernel_rfl) (fun _ _ _ h => h) (Or.inl ⟨by rfl, ?_⟩) ?_ ?_
        rotate_left
        · intro w'
          go_simp
          with_reducible rfl
        rotate_left
        · simp only [Act.put, List.setIfInBounds_toArray, List.set_cons_zero, List.set_cons_succ, i64_w, i32_w]
          rfl
        refine pure_ (i := 1) (N := some 69) (v := ?_) (a' := ?_) #[true, true, false, false, false, false, false, false, false] rfl rfl (by kernel_rfl) (fun _ _ _ h => h) (Or.inl ⟨by rfl, ?_⟩) ?_ ?_
        rotate_left
        · intro w'
          go_simp
          with_reducible rfl
        rotate_left
        · simp only [Act.put, List.setIfInBounds_toArray, List.set_cons_zero, List.set_cons_succ, i64_w, i32_w]
          rfl
        refine pure_ (i := 3) (N := some 71) (v := ?_) (a' := ?_) #[true, true, false, true, false, false, false, false, false] rfl rfl (by kernel_rfl) (fun _ _ _ h => h) (Or.inl ⟨by rfl, ?_⟩) ?_ ?_
        rotate_left
        · intro w'
          go_simp
          with_reducible rfl
        rotate_left
        · simp only [Act.put, List.setIfInBounds_toArray, List.set_cons_zero, List.set_cons_succ, i64_w, i32_w]
          rfl
        refine take_ (i := 2) (N := some 70) (v := ?_) (a' := ?_) #[true, true, true, true, false, false, false, false, false] rfl rfl (by kernel_rfl) (fun _ _ _ h => h) (Or.inl ⟨by rfl, ?_⟩) hHeld ?_ ?_
        rotate_left
        · rintro w' ⟨s0, s1⟩
          go_simp
          with_reducible rfl
        rotate_left
        · simp only [Act.put, List.setIfInBounds_toArray, List.set_cons_zero, List.set_cons_succ, i64_w, i32_w]
          rfl
        refine take_ (i := 4) (N := some 72) (v := ?_) (a' := ?_) #[true, true, true, true, true, false, false, false, false] rfl rfl (by kernel_rfl) (fun _ _ _ h => h) (Or.inl ⟨by rfl, ?_⟩) hHeld ?_ ?_
        rotate_left
        · rintro w' ⟨s0, s1⟩
          go_simp
          with_reducible rfl
        rotate_left
        · simp only [Act.put, List.setIfInBounds_toArray, List.set_cons_zero, List.set_cons_succ, i64_w, i32_w]
          rfl
        refine one_ (i := 5) (N := some 73) #[true, true, true, true, true, true, false, false, false] rfl rfl (by kernel_rfl) (by decide) (fun K hK => ?_)
        refine goes_ Tryz.func74 (by kernel_rfl) rfl #[.slice At tok.f2.length ct] (by rfl) rfl rfl (by simp only [List.map_toArray, List.map_cons, List.map_nil]; rfl) ?_
        with_reducible refine (CC).mono ?_
        rintro e w5 ⟨v5, rfl, hv5, hb5⟩
        refine ⟨_, rfl, ?_⟩
        obtain ⟨A5, q5, rfl⟩ := Kd.R_slice hv5
        refine hK.out _ _ ⟨(pw_cell_below hb5 (hcd.cell 1)), (pw_cell_below hb5 (hcd.cell 2))⟩ (fun hHeld => ?_)
        clear hK K
        refine norm_ (a' := ?_) ?_ ?_
        rotate_left
        · show Act.put _ (some 73) _ = _
          simp only [Act.put, List.setIfInBounds_toArray, List.set_cons_zero, List.set_cons_succ, i64_w, i32_w]
          rfl
        refine pure_ (i := 6) (N := some 74) (v := ?_) (a' := ?_) #[true, true, true, true, true, true, true, false, false] rfl rfl (by kernel_rfl) (fun _ _ _ h => h) (Or.inl ⟨by rfl, ?_⟩) ?_ ?_
        rotate_left
        · intro w'
          go_simp
          with_reducible rfl
        rotate_left
        · simp only [Act.put, List.setIfInBounds_toArray, List.set_cons_zero, List.set_cons_succ, i64_w, i32_w]
          rfl
        refine last_ (i := 7) (N := some 75) #[true, true, true, true, true, true, true, true, false] rfl rfl (by kernel_rfl) (by decide) (fun K hK => ?_)
        refine goes_ Tryz.func73 (by kernel_rfl) rfl #[.pointer (some ⟨g, 0, none⟩), .agg #[.int .u8 1, .string tok.f1, .slice A5 tok.f2.length q5, .string ⟨#[]⟩, .int .i64 0, .slice none 0 0]] (by rfl) rfl rfl (by simp only [List.map_toArray, List.map_cons, List.map_nil]; rfl) ?_
        with_reducible refine (AC _ w5 hv5 hb5).mono ?_
        rintro e w6 ⟨rfl, h6, b6⟩
        refine ⟨_, rfl, ?_⟩
        refine hK.out _ _ ?_
        clear hK K
        refine norm_ (a' := ?_) ?_ ?_
        rotate_left
        · show Act.put _ (some 75) _ = _
          simp only [Act.put, List.setIfInBounds_toArray, List.set_cons_zero, List.set_cons_succ, i64_w, i32_w]
          rfl
        refine pure_ (i := 8) (N := some 7) (v := ?_) (a' := ?_) #[true, true, true, true, true, true, true, true, true] rfl rfl (by kernel_rfl) (fun _ _ _ h => h) (Or.inl ⟨by rfl, ?_⟩) ?_ ?_
        rotate_left
        · intro w'
          go_simp
          with_reducible rfl
        rotate_left
        · simp only [Act.put, List.setIfInBounds_toArray, List.set_cons_zero, List.set_cons_succ, i64_w, i32_w]
          rfl
        refine done_ (by kernel_rfl) ?_
        clear AC hA hcd HS5
        obtain ⟨e1, b5⟩ := r1
        dsimp only at h6 hr2
        by_cases hok : e1 = 0 ∧ kd < 7
        · rw [if_pos hok] at hr2
          obtain rfl := Option.some.inj hr2
          obtain ⟨rfl, h7⟩ := hok
          obtain ⟨vt5, vo5, hB5⟩ := h6 rfl
          obtain ⟨A0, q0, rfl⟩ := Kd.S_slice hB5.t
          obtain ⟨A1, q1, rfl, -⟩ := Kd.Q_slice hB5.op
          have c0 := hB5.cell0
          have c1 := hB5.cell1
          have hl0 : b5.t.length ≤ 9223372036854775807 := (Kd.S_reads' hB5.t).2.2.2.1
          have hl1 : b5.op.length ≤ 9223372036854775807 := (Kd.Q_reads' hB5.op).2.2.2.1
          have hw : IntKind.i64.wrap ((b5.t.length : Int) - 1) = (b5.t.length : Int) - 1 := IntWalk.i64_in _ (by omega)
          go_wp2_with fail
          refine start_ (n := 16) (S := fun w' => w'.cell? ⟨g, 0, none⟩ = some (.slice A0 b5.t.length q0) ∧ w'.cell? ⟨g, 1, none⟩ = some (.slice A1 b5.op.length q1)) (ds := [15]) #[false, false, false, false, false, false, false, false, false, false, false, false, false, false, false, false] (by kernel_rfl) rfl rfl ⟨c0, c1⟩ (fun hHeld => ?_)
          refine pure_ (i := 0) (N := some 82) (v := ?_) (a' := ?_) #[true, false, false, false, false, false, false, false, false, false, false, false, false, false, false, false] rfl rfl (by kernel_rfl) (fun _ _ _ h => h) (Or.inl ⟨by rfl, ?_⟩) ?_ ?_
          rotate_left
          · intro w'
            go_simp
            with_reducible rfl
          rotate_left
          · simp only [Act.put, List.setIfInBounds_toArray, List.set_cons_zero, List.set_cons_succ, i64_w, i32_w]
            rfl
          refine pure_ (i := 1) (N := some 83) (v := ?_) (a' := ?_) #[true, true, false, false, false, false, false, false, false, false, false, false, false, false, false, false] rfl rfl (by kernel_rfl) (fun _ _ _ h => h) (Or.inl ⟨by rfl, ?_⟩) ?_ ?_
          rotate_left
          · intro w'
            go_simp
            with_reducible rfl
          rotate_left
          · simp only [Act.put, List.setIfInBounds_toArray, List.set_cons_zero, List.set_cons_succ, i64_w, i32_w]
            rfl
          refine pure_ (i := 2) (N := some 84) (v := ?_) (a' := ?_) #[true, true, true, false, false, false, false, false, false, false, false, false, false, false, false, false] rfl rfl (by kernel_rfl) (fun _ _ _ h => h) (Or.inl ⟨by rfl, ?_⟩) ?_ ?_
          rotate_left
          · intro w'
            go_simp
            with_reducible rfl
          rotate_left
          · simp only [Act.put, List.setIfInBounds_toArray, List.set_cons_zero, List.set_cons_succ, i64_w, i32_w]
            rfl
          refine pure_ (i := 3) (N := some 85) (v := ?_) (a' := ?_) #[true, true, true, true, false, false, false, false, false, false, false, false, false, false, false, false] rfl rfl (by kernel_rfl) (fun _ _ _ h => h) (Or.inl ⟨by rfl, ?_⟩) ?_ ?_
          rotate_left
          · intro w'
            go_simp
            with_reducible rfl
          rotate_left
          · simp only [Act.put, List.setIfInBounds_toArray, List.set_cons_zero, List.set_cons_succ, i64_w, i32_w]
            rfl
          refine pure_ (i := 5) (N := some 87) (v := ?_) (a' := ?_) #[true, true, true, true, false, true, false, false, false, false, false, false, false, false, false, false] rfl rfl (by kernel_rfl) (fun _ _ _ h => h) (Or.inl ⟨by rfl, ?_⟩) ?_ ?_
          rotate_left
          · intro w'
            go_simp
            with_reducible rfl
          rotate_left
          · simp only [Act.put, List.setIfInBounds_toArray, List.set_cons_zero, List.set_cons_succ, i64_w, i32_w]
            rfl
          refine pure_ (i := 6) (N := some 88) (v := ?_) (a' := ?_) #[true, true, true, true, false, true, true, false, false, false, false, false, false, false, false, false] rfl rfl (by kernel_rfl) (fun _ _ _ h => h) (Or.inl ⟨by rfl, ?_⟩) ?_ ?_
          rotate_left
          · intro w'
            go_simp
            with_reducible rfl
          rotate_left
          · simp only [Act.put, List.setIfInBounds_toArray, List.set_cons_zero, List.set_cons_succ, i64_w, i32_w]
            rfl
          refine pure_ (i := 7) (N := some 89) (v := ?_) (a' := ?_) #[true, true, true, true, false, true, true, true, false, false, false, false, false, false, false, false] rfl rfl (by kernel_rfl) (fun _ _ _ h => h) (Or.inl ⟨by rfl, ?_⟩) ?_ ?_
          rotate_left
          · intro w'
            go_simp
            with_reducible rfl
          rotate_left
          · simp only [Act.put, List.setIfInBounds_toArray, List.set_cons_zero, List.set_cons_succ, i64_w, i32_w]
            rfl
          refine take_ (i := 4) (N := some 86) (v := ?_) (a' := ?_) #[true, true, true, true, true, true, true, true, false, false, false, false, false, false, false, false] rfl rfl (by kernel_rfl) (fun _ _ _ h => h) (Or.inl ⟨by rfl, ?_⟩) hHeld ?_ ?_
          rotate_left
          · rintro w' ⟨s0, s1⟩
            go_simp
            with_reducible rfl
          rotate_left
          · simp only [Act.put, List.setIfInBounds_toArray, List.set_cons_zero, List.set_cons_succ, i64_w, i32_w]
            rfl
          refine take_ (i := 8) (N := some 90) (v := ?_) (a' := ?_) #[true, true, true, true, true, true, true, true, true, false, false, false, false, false, false, false] rfl rfl (by kernel_rfl) (fun _ _ _ h => h) (Or.inl ⟨by rfl, ?_⟩) hHeld ?_ ?_
          rotate_left
          · rintro w' ⟨s0, s1⟩
            go_simp
            with_reducible rfl
          rotate_left
          · simp only [Act.put, List.setIfInBounds_toArray, List.set_cons_zero, List.set_cons_succ, i64_w, i32_w]
            rfl
          refine pure_ (i := 9) (N := some 91) (v := ?_) (a' := ?_) #[true, true, true, true, true, true, true, true, true, true, false, false, false, false, false, false] rfl rfl (by kernel_rfl) (fun _ _ _ h => h) (Or.inl ⟨by rfl, ?_⟩) ?_ ?_
          rotate_left
          · intro w'
            go_simp
            with_reducible rfl
          rotate_left
          · simp only [Act.put, List.setIfInBounds_toArray, List.set_cons_zero, List.set_cons_succ, i64_w, i32_w]
            rfl
          refine pure_ (i := 10) (N := some 92) (v := ?_) (a' := ?_) #[true, true, true, true, true, true, true, true, true, true, true, false, false, false, false, false] rfl rfl (by kernel_rfl) (fun _ _ _ h => h) (Or.inl ⟨by rfl, ?_⟩) ?_ ?_
          rotate_left
          · intro w'
            go_simp
            with_reducible rfl
          rotate_left
          · simp only [Act.put, List.setIfInBounds_toArray, List.set_cons_zero, List.set_cons_succ, i64_w, i32_w]
            rfl
          refine one_ (i := 11) (N := some 93) #[true, true, true, true, true, true, true, true, true, true, true, true, false, false, false, false] rfl rfl (by kernel_rfl) (by decide) (fun K hK => ?_)
          refine value_ (w1 := ?_) (v := ?_) (by rfl) rfl ?_ ?_
          rotate_left 2
          · go_simp
            constructor
            · rfl
            · rfl
          refine hK.out _ _ ⟨(pw_cell_below (below_alloc (Below.drew (Below.refl _ _)) _) c0), (pw_cell_below (below_alloc (Below.drew (Below.refl _ _)) _) c1)⟩ (fun hHeld => ?_)
          clear hK K
          refine norm_ (a' := ?_) ?_ ?_
          rotate_left
          · show Act.put _ (some 93) _ = _
            simp only [Act.put, List.setIfInBounds_toArray, List.set_cons_zero, List.set_cons_succ, i64_w, i32_w]
            rfl
          refine one_ (i := 12) (N := some 94) #[true, true, true, true, true, true, true, true, true, true, true, true, true, false, false, false] rfl rfl (by kernel_rfl) (by decide) (fun K hK => ?_)
          refine Kd.Q_append_step (Kd.int .i64) (w0 := w0) w0.heap.size rfl (.tmp 86) (.tmp 93) 36 3 (.int .i64 0) 8 rfl Tryz.underlying36 info3 rfl (by decide) (by decide) (.slice A1 b5.op.length q1) b5.op ((b5.t.length : Int) - 1) [.int .i64 ((b5.t.length : Int) - 1)] (fun _ => True) (fun _ => False) rfl rfl rfl (fun _ hk => hk.elim) (fun _ _ => trivial) (Kd.Q_drew hB5.op) b6.drew b6.size (by rw [show b5.op = b3.op from hop5.out]; omega) ?_
          intro v7 w7 ho7 hb7 hg7 hat7
          obtain ⟨A7, q7, rfl, -⟩ := Kd.Q_slice ho7
          rw [List.length_append, List.length_singleton] at ho7 hat7
          rw [List.length_append, List.length_singleton]
          have hB7 := blk_grown (show w6.drew.heap[g]? = _ from hB5.box) hg7 (Kd.Q_ne hB5.op hB5.box (by decide))
          have g7 := blk_frozen hB7 1
          have k7 : w7.cell? ⟨g, 1, none⟩ = some (.slice A1 b5.op.length q1) := by rw [blk_cell hB7]; rfl
          have k70 : w7.cell? ⟨g, 0, none⟩ = some (.slice A0 b5.t.length q0) := by rw [blk_cell hB7]; rfl
          refine hK.out _ _ ⟨k70, k7⟩ (fun hHeld => ?_)
          clear hK K
          refine norm_ (a' := ?_) ?_ ?_
          rotate_left
          · show Act.put _ (some 94) _ = _
            simp only [Act.put, List.setIfInBounds_toArray, List.set_cons_zero, List.set_cons_succ, i64_w, i32_w]
            rfl
          refine pure_ (i := 13) (N := some 95) (v := ?_) (a' := ?_) #[true, true, true, true, true, true, true, true, true, true, true, true, true, true, false, false] rfl rfl (by kernel_rfl) (fun _ _ _ h => h) (Or.inl ⟨by rfl, ?_⟩) ?_ ?_
          rotate_left
          · intro w'
            go_simp
            with_reducible rfl
          rotate_left
          · simp only [Act.put, List.setIfInBounds_toArray, List.set_cons_zero, List.set_cons_succ, i64_w, i32_w]
            rfl
          refine pure_ (i := 14) (N := some 96) (v := ?_) (a' := ?_) #[true, true, true, true, true, true, true, true, true, true, true, true, true, true, true, false] rfl rfl (by kernel_rfl) (fun _ _ _ h => h) (Or.inl ⟨by rfl, ?_⟩) ?_ ?_
          rotate_left
          · intro w'
            go_simp
            with_reducible rfl
          rotate_left
          · simp only [Act.put, List.setIfInBounds_toArray, List.set_cons_zero, List.set_cons_succ, i64_w, i32_w]
            rfl
          refine last_ (i := 15) (N := none) #[true, true, true, true, true, true, true, true, true, true, true, true, true, true, true, true] rfl rfl (by kernel_rfl) (by decide) (fun K hK => ?_)
          refine skip_ (w1 := ?_) (by rfl) rfl ?_ ?_
          rotate_left
          · go_simp
            rfl
          refine hK.out _ _ ?_
          clear hK K
          refine done_ (by kernel_rfl) ?_
          have hT7 := Kd.S_after (ok := fun _ => True) (Kd.S_mono (Kd.S_drew hB5.t) (fun k hk => ⟨trivial, hk⟩)) hg7 hat7
          go_wp2_with fail
          go_ret
          exact ⟨rfl, ⟨_, _, blk_put hB7 1 _ rfl, Kd.S_mono (Kd.S_set hT7 hB7 tE 1 _) (fun k hk => hk.2), Kd.Q_set ho7 hB7 oE 1 _⟩, hb7.setCell hB _⟩
        · rw [if_neg hok] at hr2
          obtain rfl := Option.some.inj hr2
          clear hr2
          have hok' : e1 = 0 → ¬ kd < 7 := fun h1 h2 => hok ⟨h1, h2⟩
          clear hok
          by_cases he : e1 = 0
          · have h7 := hok' he
            have qe : (e1 == 0) = true := beq_iff_eq.mpr he
            clear he hok'
            go_wp2_with fail
            go_ret
            exact ⟨rfl, h6, b6⟩
          · have qe : (e1 == 0) = false := beq_eq_false_iff_ne.mpr he
            clear he hok'
            go_wp2_with fail
            go_ret
            exact ⟨rfl, h6, b6⟩
end Go.Proofs.YtpfhgolamlnhiaaGreatDoor
