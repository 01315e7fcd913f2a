/- serial.Serialize: the contract, in the print's form. -/
import Derived.Test.YtpfhgolamlnhiaaDoorPut2
import Derived.Test.YtpfhgolamlnhiaaDoorPut3
import Derived.Test.YtpfhgolamlnhiaaDoorXB
import Derived.Laws.EntriesVeiled
set_option linter.unusedVariables false
set_option linter.unusedSimpArgs false
namespace Go.Proofs.YtpfhgolamlnhiaaDoor
open Go.RowKit Go.Proofs.YtpfhgolamlnhiaaDoorW.PrintWords Go.Proofs.YtpfhgolamlnhiaaDoor.XT Go.Proofs.YtpfhgolamlnhiaaDoor.XA Go.Proofs.YtpfhgolamlnhiaaDoor.XB

theorem put_any (k : Nat) (w0 : W0) (A : Option Addr) (c : Nat) (t : List Nd) (hT : Kd.C k37 w0.w A t.length t) : ∀ (f : Nat) (acc r : List UInt8) (i : Int) (w : World), putS k t f acc i = some r → PInv w0 A c t acc w →
    Calls Tryd.prog 38 (pArgs w0 i) w (PPost w0 A c t r w)
  | 0, acc, r, i, w, h, hI => by simp [putS] at h
  | f + 1, acc, r, i, w, h, hI => by
    unfold putS at h
    split at h
    · obtain rfl := Option.some.inj h
      exact put_stop w0 A c t acc i w hI (by omega)
    · split at h
      case isFalse => cases h
      split at h
      case isFalse => cases h
      rename_i hs h0 hi
      obtain ⟨i, rfl⟩ := Int.eq_ofNat_of_zero_le h0
      have ih := put_any k w0 A c t hT f
      by_cases h2 : (rd_T37 t i).f0 = 2
      · exact put_text k f w0 A c t acc r i w hT ih hI (by omega) (by omega) h2 h
      · by_cases h1 : (rd_T37 t i).f0 = 1
        · exact put_elem k f w0 A c t acc r i w hT ih hI (by omega) (by omega) h1 h
        · exact put_other k f w0 A c t acc r i w hT ih hI (by omega) (by omega) h2 h1 h

theorem kidsS_mono {g g' : List UInt8 → Int → Option (List UInt8)} (h : ∀ acc i, LeO (g acc i) (g' acc i)) : ∀ (l : List Int) (acc : List UInt8), LeO (kidsS g acc l) (kidsS g' acc l)
  | [], acc => LeO.refl _
  | c :: t, acc => LeO.bind (h acc c) (fun a => kidsS_mono h t a)
theorem footS_mono (k : Nat) (n : Nd) (acc : List UInt8) : LeO (footS k n acc) (footS (k + 1) n acc) := by
  unfold footS
  refine LeO.ite (LeO.bind (tree_Kind.mono _ _) (fun _ => LeO.refl _)) (LeO.refl _)
theorem putS_mono (k : Nat) (t : List Nd) : ∀ (f : Nat) (acc : List UInt8) (i : Int), LeO (putS k t f acc i) (putS (k + 1) t (f + 1) acc i)
  | 0, acc, i => LeO.none _
  | f + 1, acc, i => by
    unfold putS
    exact LeO.ite (LeO.refl _) (LeO.ite (LeO.ite (LeO.bind (LeO.refl _) (fun a => LeO.bind (kidsS_mono (putS_mono k t f) _ a) (fun b => footS_mono k _ b))) (LeO.refl _)) (LeO.refl _))

def x_Serialize.f (k : Nat) (t : List Nd) : Option (ByteArray × Int) :=
  (tree_Right.f k t).bind fun e => if e = 0 then (putS k t k [] 0).bind fun l => if (l.length : Int) > 65536 then some (⟨#[]⟩, 3) else some (⟨l.toArray⟩, 0) else some (⟨#[]⟩, 53)
theorem x_Serialize.mono : ∀ (t : List Nd) (k : Nat), LeO (x_Serialize.f k t) (x_Serialize.f (k + 1) t) := fun t k =>
  LeO.bind (tree_Right.mono t k) (fun _ => LeO.ite (LeO.bind (putS_mono k t k [] 0) (fun _ => LeO.refl _)) (LeO.refl _))

set_option maxHeartbeats 4000000 in
set_option maxRecDepth 100000 in
theorem x_Serialize.calls (k : Nat) (A0 : Option Addr) (c0 : Nat) (l0 : List Nd) (r1 : ByteArray) (r2 : Int) (w : World) (hr0 : Kd.C k37 w A0 l0.length l0) (hc0 : l0.length ≤ c0) (h : x_Serialize.f k l0 = some (r1, r2)) (hG1 : G1 w) :
    Calls Tryd.prog 25 #[.slice A0 l0.length c0] w fun e w' => e = .returned (.tuple #[.string r1, .int .i64 r2]) ∧ Below w.heap.size w w' := by
  obtain ⟨e, he, h⟩ := Option.bind_eq_some_iff.1 h
  have HE := Lib.hid he
  have HT := Lib.hid hr0
  have HG := Lib.hid hG1
  clear he hr0 hG1
  split at h
  · rename_i h0
    obtain ⟨l, hl, h⟩ := Option.bind_eq_some_iff.1 h
    have HL := Lib.hid hl
    have HH := Lib.hid h
    subst h0
    clear hl h
    go_enter Tryd.func25, Tryd.ntmps25
    go_wp2_with (go_at_call 37; refine (tree_Right.calls k A0 c0 l0 0 _ (Kd.C_below HT.out (below_alloc (Below.refl _ _) _)) hc0 HE.out (HG.out.below (below_alloc (Below.refl _ _) _))).mono ?_; rintro e w1 ⟨rfl, hb1⟩)
    have hs1 : w.heap.size + 1 ≤ w1.heap.size := by have := hb1.size; simp at this; omega
    have hW2 : Below w.heap.size w w1 := below_then (below_alloc (Below.refl _ _) _) (by simp) hb1
    have hbox : w1.heap[w.heap.size]? = some (.cells #[.slice A0 l0.length c0] 30 (0, 0)) := (hb1.block _ (by simp)).trans (heap_alloc_new _ _)
    obtain ⟨w0, hw0⟩ : ∃ w0 : W0, w0 = ⟨w, w.heap.size, w1.heap.size, w1.heap.size + 1, Nat.le_refl _, by omega, by omega⟩ := ⟨_, rfl⟩
    have e0 : w0.w = w := by rw [hw0]
    have ex : w0.bx = w.heap.size := by rw [hw0]
    have eb : w0.bb = w1.heap.size := by rw [hw0]
    have ef : w0.bf = w1.heap.size + 1 := by rw [hw0]
    have hI : PInv w0 A0 c0 l0 [] ((w1.alloc (.cells #[.pointer none, .slice none 0 0] 52)).alloc (.cells #[.func (.func 38) #[] #[.pointer (some ⟨w1.heap.size, 0, none⟩), .pointer (some ⟨w.heap.size, 0, none⟩), .pointer (some ⟨w1.heap.size + 1, 0, none⟩)]] 69)) := by
      refine ⟨?_, ?_, ?_, ?_⟩
      · rw [e0]; exact below_alloc (below_alloc hW2 _) _
      · rw [ex, Lib.alloc_old _ _ _ (by simp; omega), Lib.alloc_old _ _ _ (by omega)]; exact hbox
      · rw [e0, eb]
        refine .inl ⟨by omega, .slice none 0 0, ?_, World.ownsRowF_nil _ _ _ _, by simp [Value.ownBlock]⟩
        rw [Lib.alloc_old _ _ _ (by simp)]; exact heap_alloc_new _ _
      · have hn := heap_alloc_new (w1.alloc (.cells #[.pointer none, .slice none 0 0] 52)) (.cells #[.func (.func 38) #[] #[.pointer (some ⟨w1.heap.size, 0, none⟩), .pointer (some ⟨w.heap.size, 0, none⟩), .pointer (some ⟨w1.heap.size + 1, 0, none⟩)]] 69)
        simp only [World.size_alloc] at hn
        rw [ef, eb, ex]; exact hn
    have hput := put_any k w0 A0 c0 l0 (by rw [e0]; exact HT.out) k [] l 0 _ HL.out hI
    unfold pArgs at hput
    rw [eb, ex, ef] at hput
    refine hput.mono ?_
    rintro e w3 ⟨rfl, hI3, -⟩
    have hB3 := hI3.bld
    have hb3 := hI3.bel
    rw [e0, eb] at hB3
    rw [e0] at hb3
    have h4 : w.heap.size ≤ w3.heap.size := hb3.size
    clear hput hI hI3 hb1 hbox
    have HF := HH.out
    split at HF
    · rename_i hl
      simp only [Option.some.injEq, Prod.mk.injEq] at HF
      obtain ⟨rfl, rfl⟩ := HF
      go_wp2_with (go_at_call 39; refine (len_any _ _ l _ hB3).mono ?_; rintro e w' ⟨rfl, rfl⟩)
      go_ret2
      exact ⟨rfl, hb3⟩
    · rename_i hl
      simp only [Option.some.injEq, Prod.mk.injEq] at HF
      obtain ⟨rfl, rfl⟩ := HF
      go_wp2_with (go_at_call 39; refine (len_any _ _ l _ hB3).mono ?_; rintro e w' ⟨rfl, rfl⟩)
      refine (Tryd.Builder_String_any_k _ _ l _ hB3 h4).mono ?_
      rintro e w5 ⟨rfl, -, hb5, -⟩
      go_wp2
      go_ret2
      exact ⟨rfl, hb3.trans hb5⟩
  · rename_i h0
    simp only [Option.some.injEq, Prod.mk.injEq] at h
    obtain ⟨rfl, rfl⟩ := h
    have t0 : (e != 0) = true := by simp [h0]
    clear h0
    go_enter Tryd.func25, Tryd.ntmps25
    go_wp2_with (go_at_call 37; refine (tree_Right.calls k A0 c0 l0 e _ (Kd.C_below HT.out (below_alloc (Below.refl _ _) _)) hc0 HE.out (HG.out.below (below_alloc (Below.refl _ _) _))).mono ?_; rintro e w1 ⟨rfl, hb1⟩)
    go_ret2
    exact ⟨rfl, below_then (below_alloc (Below.refl _ _) _) (by simp) hb1⟩
end Go.Proofs.YtpfhgolamlnhiaaDoor
