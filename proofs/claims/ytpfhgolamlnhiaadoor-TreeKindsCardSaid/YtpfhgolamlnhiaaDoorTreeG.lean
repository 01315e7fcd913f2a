/- slices.Clone of attributes. -/
import Derived.Test.YtpfhgolamlnhiaaDoorTreeA
import Derived.Lib.LazyBuf
set_option linter.unusedVariables false
set_option linter.unusedSimpArgs false
namespace Go.Proofs.YtpfhgolamlnhiaaDoor
open Go.RowKit Go.Proofs.YtpfhgolamlnhiaaDoorW.PrintWords Go.Proofs.YtpfhgolamlnhiaaDoor.XT Go.Proofs.YtpfhgolamlnhiaaDoor.XA
set_option maxHeartbeats 4000000 in
set_option maxRecDepth 100000 in
theorem clone_calls (A : Option Addr) (c : Nat) (l : List S43) (w : World) (hr : Kd.C k43 w A l.length l) (hc : l.length ≤ c) (hl : l.length ≤ 65536) :
    Calls Tryd.prog 80 #[.slice A l.length c] w fun e w' => ∃ v, e = .returned v ∧ Kd.R k43 43 w' w.heap.size (fun _ => True) v l ∧ Below w.heap.size w w' := by
  have HR := Lib.hid hr
  clear hr
  have hlen : l.length ≤ 9223372036854775807 := HR.out.2.1
  cases A with
  | none =>
    have hl0 : l = [] := by
      by_cases h0 : 0 < l.length
      · obtain ⟨ad, e, _⟩ := HR.out.2.2 h0
        cases e
      · exact List.length_eq_zero_iff.1 (by omega)
    subst hl0
    go_enter Tryd.func80, Tryd.ntmps80
    go_wp2_with fail
    rw [Lib.run_eql_slice_nil (h := Tryd.underlying34)]
    simp only [Result.andThen]
    rw [Oper.upon_value]
    go_wp2_with fail
    go_ret
    exact ⟨_, rfl, Kd.R_nil _ _ _ _ _, Below.refl _ _⟩
  | some ad =>
    have hA : Below w.heap.size w (w.alloc (.cells #[] 43)) := below_alloc (Below.refl _ _) _
    have hE : Kd.R k43 43 (w.alloc (.cells #[] 43)) w.heap.size (fun _ => True) (.slice (some ⟨w.heap.size, 0, none⟩) 0 0) [] := ⟨fun _ _ => trivial, [], World.ownsRow_lit (base := w.heap.size) (e := 43) (size := 2) w #[] 0 (Nat.le_refl _) (by decide) (by decide), ⟨rfl, fun j p h => by simp at h⟩⟩
    have HR2 := Kd.C_below HR.out hA
    go_enter Tryd.func80, Tryd.ntmps80
    go_wp2_with fail
    rw [Lib.run_eql_slice_nil (h := Tryd.underlying34)]
    simp only [Result.andThen]
    rw [Oper.upon_value]
    go_wp2_with ((with_reducible refine gate_dst (N := 7) rfl ?_); (try (refine gate_guard (by rfl) ?_; dsimp only)); refine Kd.R_append_rows k43 (w0 := w) (Rr := (k43).K (w.alloc (.cells #[] 43))) w.heap.size rfl (.tmp 5) (.tmp 6) 34 43 (.agg #[(.string ⟨#[]⟩), (.string ⟨#[]⟩)]) 32 rfl Tryd.underlying34 info43 rfl (by decide) (by decide) (.slice (some ⟨w.heap.size, 0, none⟩) 0 0) [] l (some ad) l.length c (fun _ => True) (fun _ => False) rfl rfl hE HR2 (fun x cs h => by rw [k43_open h]; exact k43_mkM _ _ _ x) (fun _ hk => hk.elim) (fun _ _ => trivial) hA hA.size (by simp; omega) ?_; intro v1 w1 ho1 hb1 hg1 hat1)
    go_ret
    exact ⟨v1, rfl, ho1, hb1⟩
end Go.Proofs.YtpfhgolamlnhiaaDoor
