/- The walk of serial.Serialize's closure: a node and all below it is put behind what is written. -/
import Derived.Test.YtpfhgolamlnhiaaDoorSer
import Derived.Test.YtpfhgolamlnhiaaDoorExt2
import Derived.Test.YtpfhgolamlnhiaaDoorBuilder
import Derived.Lib.Hide
import Derived.BigCall
set_option linter.unusedVariables false
set_option linter.unusedSimpArgs false
namespace Go.Proofs.YtpfhgolamlnhiaaDoor
open Go.RowKit Go.Proofs.YtpfhgolamlnhiaaDoorW.PrintWords Go.Proofs.YtpfhgolamlnhiaaDoor.XT Go.Proofs.YtpfhgolamlnhiaaDoor.XA

/-- A builder of the call's own at block b that holds the bytes l. -/
def Bl (B b : Nat) (l : List UInt8) (w : World) : Prop := Lib.IsBuilderF 52 5 B b (Lib.byteCells l) w
def OK5 (b : Nat) (w w' : World) : Prop := Lib.OthersKept 5 (some b) w w'
theorem Bl.below {B b : Nat} {l : List UInt8} {w w' : World} (h : Bl B b l w) (hb : Below w.heap.size w w') : Bl B b l w' := by
  have key : ∀ p, Lib.BuilderAtF 52 5 B b p (Lib.byteCells l) w → Lib.BuilderAtF 52 5 B b p (Lib.byteCells l) w' := by
    intro p h
    have hlt := h.lt
    obtain ⟨hB, v, hk, hown, hne⟩ := h
    exact ⟨hB, v, (hb.block b hlt).trans hk, hown.kept (grown_of_below hb none) (by cases v.ownBlock <;> simp), hne⟩
  exact h.elim (fun x => .inl (key _ x)) (fun x => .inr (key _ x))
theorem OK5.of_below {b : Nat} {w w' : World} (hb : Below w.heap.size w w') : OK5 b w w' := fun k o hk _ _ => (hb.block k (Array.getElem?_eq_some_iff.1 hk).1).trans hk
theorem OK5.at_ {b k t : Nat} {cs : Array Value} {w w' : World} (h : OK5 b w w') (hk : w.heap[k]? = some (.cells cs t (0, 0))) (hb : k ≠ b) (ht : t ≠ 5) : w'.heap[k]? = some (.cells cs t (0, 0)) :=
  h k _ hk (fun e => hb (Option.some.inj e)) (fun c fz e => by injection e with _ e2 _; exact ht e2)
theorem Bl.size_lt {B b : Nat} {l : List UInt8} {w : World} (h : Bl B b l w) : b < w.heap.size := h.elim (fun x => x.lt) (fun x => x.lt)

theorem len_any (B b : Nat) (l : List UInt8) (w : World) (h : Bl B b l w) :
    Calls Tryd.prog 39 #[.pointer (some ⟨b, 0, none⟩)] w fun e w' => e = .returned (.int .i64 (l.length : Int)) ∧ w = w' := by
  refine (Tryd.Builder_Len_f B b _ w h).mono ?_
  rintro e w' ⟨rfl, rfl⟩
  exact ⟨by rw [Lib.byteCells_length], rfl⟩
theorem write_any (B b : Nat) (acc : List UInt8) (s : ByteArray) (r : List UInt8) (w : World) (h : Bl B b acc w) (hB : B ≤ w.heap.size) (hw : wr acc s.data.toList = some r) :
    Calls Tryd.prog 28 #[.pointer (some ⟨b, 0, none⟩), .string s] w fun e w' => e = .returned (.tuple #[.int .i64 s.size, .nilIface]) ∧ Bl B b r w' ∧ Below B w w' ∧ OK5 b w w' := by
  unfold wr at hw
  split at hw
  · obtain rfl := Option.some.inj hw
    rename_i hl
    rw [Sv.size_list] at hl
    refine (Bld.WriteString B b _ s w h (by rw [Lib.byteCells_length]; omega) hB).mono ?_
    rintro e w' ⟨rfl, h1, h2, h3⟩
    refine ⟨rfl, ?_, h2, h3⟩
    have e : Lib.byteCells (acc ++ s.data.toList) = Lib.byteCells acc ++ Lib.strCells s := by
      rw [Lib.byteCells_append]; rfl
    unfold Bl
    rw [e]
    exact .inr h1
  · cases hw

/-- The world at the call, and where the three boxes lie. -/
structure W0 where
  w : World
  bx : Nat
  bb : Nat
  bf : Nat
  lo : w.heap.size ≤ bx
  h1 : bx < bb
  h2 : bb < bf
/-- What stands in memory while nodes are put. -/
structure PInv (w0 : W0) (A : Option Addr) (c : Nat) (t : List Nd) (acc : List UInt8) (w : World) : Prop where
  bel : Below w0.w.heap.size w0.w w
  box : w.heap[w0.bx]? = some (.cells #[.slice A t.length c] 30 (0, 0))
  bld : Bl w0.w.heap.size (w0.bb) acc w
  fn : w.heap[w0.bf]? = some (.cells #[.func (.func 38) #[] #[.pointer (some ⟨w0.bb, 0, none⟩), .pointer (some ⟨w0.bx, 0, none⟩), .pointer (some ⟨w0.bf, 0, none⟩)]] 69 (0, 0))
theorem PInv.below {w0 : W0} {A : Option Addr} {c : Nat} {t : List Nd} {acc : List UInt8} {w w' : World} (h : PInv w0 A c t acc w) (hb : Below w.heap.size w w') : PInv w0 A c t acc w' :=
  ⟨below_then h.bel h.bel.size hb, (hb.block _ (blk_lt h.box)).trans h.box, h.bld.below hb, (hb.block _ (blk_lt h.fn)).trans h.fn⟩
theorem PInv.wrote {w0 : W0} {A : Option Addr} {c : Nat} {t : List Nd} {acc r : List UInt8} {w w' : World} (h : PInv w0 A c t acc w) (hb : Bl w0.w.heap.size (w0.bb) r w') (h2 : Below w0.w.heap.size w w') (h3 : OK5 (w0.bb) w w') : PInv w0 A c t r w' :=
  ⟨h.bel.trans h2, h3.at_ h.box (by have := w0.h1; omega) (by decide), hb, h3.at_ h.fn (by have := w0.h2; omega) (by decide)⟩
theorem PInv.size {w0 : W0} {A : Option Addr} {c : Nat} {t : List Nd} {acc : List UInt8} {w : World} (h : PInv w0 A c t acc w) : w0.w.heap.size + 2 < w.heap.size ∧ w0.bf < w.heap.size ∧ w0.bb < w0.bf ∧ w0.bx < w0.bb ∧ w0.w.heap.size ≤ w0.bx := by
  have := blk_lt h.fn; have := w0.lo; have := w0.h1; have := w0.h2; omega

/-- What a call on a node leaves. -/
def PPost (w0 : W0) (A : Option Addr) (c : Nat) (t : List Nd) (r : List UInt8) (w : World) (e : Ending) (w' : World) : Prop :=
  e = .returned (.tuple #[]) ∧ PInv w0 A c t r w' ∧ OK5 (w0.bb) w w'

end Go.Proofs.YtpfhgolamlnhiaaDoor
