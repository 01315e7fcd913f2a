/- tree.builder.add: a node made. -/
import Derived.Test.YtpfhgolamlnhiaaDoorTreeA
import Derived.Test.YtpfhgolamlnhiaaDoorWLast
import Derived.Test.YtpfhgolamlnhiaaDoorWMore
set_option linter.unusedVariables false
set_option linter.unusedSimpArgs false
namespace Go.Proofs.YtpfhgolamlnhiaaDoor
open Go.RowKit Go.Proofs.YtpfhgolamlnhiaaDoorW.PrintWords Go.Proofs.YtpfhgolamlnhiaaDoorW.PrintLast Go.Proofs.YtpfhgolamlnhiaaDoor.XT Go.Proofs.YtpfhgolamlnhiaaDoor.XA

theorem alloc_drewN1 (W : World) (o : Obj) (a : Nat) : (W.alloc o).drewN a = (W.drewN a).alloc o := rfl
theorem alloc_drewN2 (W : World) (o : Obj) (a b : Nat) : ((W.alloc o).drewN a).drewN b = ((W.drewN a).drewN b).alloc o := rfl
theorem alloc_drewN3 (W : World) (o : Obj) (a b : Nat) : ((W.alloc o).drew.drewN a).drewN b = ((W.drew.drewN a).drewN b).alloc o := rfl
theorem setCells_one (W : World) (g o : Nat) (v : Value) : W.setCells g o [v] = W.setCell ⟨g, o, none⟩ v := rfl
/-- The current node's children, lent. -/
theorem node_lend {W : World} {B gt M cap : Nat} {ok : Nat → Prop} {t : List NodeD} (h : Kd.S k37 37 W B ok (.slice (some ⟨gt, 0, none⟩) M cap) t) (T : Int) (h0 : 0 ≤ T) (h1 : T < M) :
    ∃ (oki : Nat → Prop) (v2 v5 : Value), Kd.R k43 43 W B oki v2 (rd_T37 t T).f2 ∧ Kd.R (Kd.int .i64) 3 W B oki v5 (rd_T37 t T).f5 ∧ (∀ k, oki k → ok k ∧ k ≠ gt) ∧
      (∀ j u, ([.int .u8 (rd_T37 t T).f0, .string (rd_T37 t T).f1, v2, .string (rd_T37 t T).f3, .int .i64 (rd_T37 t T).f4, v5] : List Value)[j]? = some u → W.cell? ⟨gt, T.toNat * 6 + j, none⟩ = some u) ∧
      (∀ j, W.frozen? ⟨gt, T.toNat * 6 + j, none⟩ = false) ∧
      Kd.H k37 37 W B ok (.slice (some ⟨gt, 0, none⟩) M cap) t T oki [.int .u8 (rd_T37 t T).f0, .string (rd_T37 t T).f1, v2, .string (rd_T37 t T).f3, .int .i64 (rd_T37 t T).f4, v5] := by
  obtain ⟨oki, c, hcl, hM, hcc, hfr, hoki, hH⟩ := Kd.S_elem h z37 T h0 h1
  obtain ⟨v2, v5, rfl, h2, h5⟩ := k37_openM hM
  exact ⟨oki, v2, v5, h2, h5, hoki, hcc, hfr, hH⟩
set_option maxHeartbeats 4000000 in
set_option maxRecDepth 100000 in
theorem add_calls (B g : Nat) (b : Bs) (n : NodeD) (z4 : Int) (va : Value) (okA : Nat → Prop) (r : Int × Bs) (vt vo : Value) (w0 w : World) (h : BdAt B g b vt vo w) (hb : Below B w0 w) (hB : B ≤ g)
    (hf5 : n.f5 = []) (hA : Kd.R k43 43 w B okA va n.f2) (hAlt : ∀ k, okA k → k < w.heap.size) (hAt : Kd.S k37 37 w B (fun k => some k ≠ vo.ownBlock ∧ ¬ okA k) vt b.t) (hAo : ∀ k, okA k → some k ≠ vo.ownBlock ∧ some k ≠ vt.ownBlock) (hBw : B ≤ w.heap.size)
    (hr : addB b n = some r) :
    Calls Tryd.prog 79 #[.pointer (some ⟨g, 0, none⟩), .agg #[.int .u8 n.f0, .string n.f1, va, .string n.f3, .int .i64 z4, .slice none 0 0]] w fun e w' => e = .returned (.int .i64 r.1) ∧ (r.1 = 0 → BdEx B g r.2 w') ∧ Below B w0 w' := by
  have c0 := h.cell0
  have H := Lib.hid h
  have HF5 := Lib.hid hf5
  clear hf5
  obtain ⟨A2, q2, rfl⟩ := Kd.R_slice hA
  obtain ⟨At, qt, rfl⟩ := Kd.S_slice h.t
  have hlt9 : b.t.length ≤ 9223372036854775807 := (Kd.S_reads' h.t).2.2.2.1
  unfold addB at hr
  by_cases hmax : 16384 ≤ b.t.length
  · rw [if_pos hmax] at hr
    obtain rfl := Option.some.inj hr
    have hq : (16384 : Int) ≤ (b.t.length : Int) := by omega
    have hnew : ∀ o : Obj, (w.alloc o).cell? ⟨g, 0, none⟩ = some (.slice At b.t.length qt) := fun o => pw_cell_below (below_alloc (Below.refl _ _) o) c0
    clear h hA hAt hr hAo hAlt
    go_enter Tryd.func79, Tryd.ntmps79
    go_wp2_with fail
    go_ret
    exact ⟨rfl, fun h => absurd (show (3 : Int) = 0 from h) (by decide), hb.alloc (Nat.le_trans hBw (Nat.le_refl _)) _⟩
  · rw [if_neg hmax] at hr
    split at hr
    case isFalse => cases hr
    rename_i hok
    obtain rfl := Option.some.inj hr
    obtain ⟨hok, hk5⟩ := hok
    have HOK := Lib.hid hok
    obtain ⟨k1, k2, k3⟩ := hok
    obtain ⟨gt, cap, e⟩ := h.tform (by omega)
    injection e with e1 e2 e3
    subst e1
    subst e3
    obtain ⟨go, oo, co, rfl⟩ := h.oform k1
    have hq : ¬ (16384 : Int) ≤ (b.t.length : Int) := by omega
    have c1 := h.cell1
    have c2 := h.ocell ((b.op.length : Int) - 1) (by omega) (by omega)
    change w.cell? _ = some (.int .i64 (topI b)) at c2
    have e2 : ((b.op.length : Int) - 1).toNat = b.op.length - 1 := by omega
    rw [e2] at c2
    have hl : b.op.length ≤ 9223372036854775807 := (Kd.Q_reads' h.op).2.2.2.1
    have hw : IntKind.i64.wrap ((b.op.length : Int) - 1) = (b.op.length : Int) - 1 := IntWalk.i64_in _ (by omega)
    have hnew : ∀ (o : Obj) (a : Addr) (u : Value), w.cell? a = some u → (w.alloc o).cell? a = some u := fun o a u hc => pw_cell_below (below_alloc (Below.refl _ _) o) hc
    have d0 := hnew (.cells #[.int .u8 n.f0, .string n.f1, .slice A2 n.f2.length q2, .string n.f3, .int .i64 z4, .slice none 0 0] 37) _ _ c0
    have d1 := hnew (.cells #[.int .u8 n.f0, .string n.f1, .slice A2 n.f2.length q2, .string n.f3, .int .i64 z4, .slice none 0 0] 37) _ _ c1
    have d2 := hnew (.cells #[.int .u8 n.f0, .string n.f1, .slice A2 n.f2.length q2, .string n.f3, .int .i64 z4, .slice none 0 0] 37) _ _ c2
    clear hnew
    clear c0 c1 c2
    have hN := blk_new w (.cells #[.int .u8 n.f0, .string n.f1, .slice A2 n.f2.length q2, .string n.f3, .int .i64 z4, .slice none 0 0] 37)
    have n4 : (w.alloc (.cells #[.int .u8 n.f0, .string n.f1, .slice A2 n.f2.length q2, .string n.f3, .int .i64 z4, .slice none 0 0] 37)).cell? ⟨w.heap.size, 4, none⟩ = some (.int .i64 z4) := by rw [blk_cell hN]; rfl
    have f4 := blk_frozen hN 4
    go_enter Tryd.func79, Tryd.ntmps79
    go_wp2_with fail
    have b0 : (1 : Int) ≤ (b.op.length : Int) := by omega
    have b1 : (b.op.length : Int) - 1 < (b.op.length : Int) := by omega
    refine start_ (n := 14) (S := fun w' => w'.cell? ⟨g, 1, none⟩ = some (.slice (some ⟨go, oo, none⟩) b.op.length co) ∧ w'.cell? ⟨go, oo + (b.op.length - 1), none⟩ = some (.int .i64 (topI b))) (ds := [13]) #[false, false, false, false, false, false, false, false, false, false, false, false, false, false] (by kernel_rfl) rfl rfl ⟨d1, d2⟩ (fun hHeld => ?_)
    refine pure_ (i := 0) (N := some 11) (v := ?_) (a' := ?_) #[true, false, false, false, false, false, false, false, false, false, false, false, false, false] rfl rfl (by kernel_rfl) (fun _ _ _ h => h) (Or.inl ⟨by rfl, ?_⟩) ?_ ?_
    rotate_left
    · intro w'
      go_simp
      with_reducible rfl
    rotate_left
    · simp only [Act.put, List.setIfInBounds_toArray, List.set_cons_zero, List.set_cons_succ, i64_w, i32_w]
      rfl
    refine pure_ (i := 1) (N := some 12) (v := ?_) (a' := ?_) #[true, true, false, false, false, false, false, false, false, false, false, false, false, false] rfl rfl (by kernel_rfl) (fun _ _ _ h => h) (Or.inl ⟨by rfl, ?_⟩) ?_ ?_
    rotate_left
    · intro w'
      go_simp
      with_reducible rfl
    rotate_left
    · simp only [Act.put, List.setIfInBounds_toArray, List.set_cons_zero, List.set_cons_succ, i64_w, i32_w]
      rfl
    refine pure_ (i := 2) (N := some 13) (v := ?_) (a' := ?_) #[true, true, true, false, false, false, false, false, false, false, false, false, false, false] rfl rfl (by kernel_rfl) (fun _ _ _ h => h) (Or.inl ⟨by rfl, ?_⟩) ?_ ?_
    rotate_left
    · intro w'
      go_simp
      with_reducible rfl
    rotate_left
    · simp only [Act.put, List.setIfInBounds_toArray, List.set_cons_zero, List.set_cons_succ, i64_w, i32_w]
      rfl
    refine pure_ (i := 4) (N := some 15) (v := ?_) (a' := ?_) #[true, true, true, false, true, false, false, false, false, false, false, false, false, false] rfl rfl (by kernel_rfl) (fun _ _ _ h => h) (Or.inl ⟨by rfl, ?_⟩) ?_ ?_
    rotate_left
    · intro w'
      go_simp
      with_reducible rfl
    rotate_left
    · simp only [Act.put, List.setIfInBounds_toArray, List.set_cons_zero, List.set_cons_succ, i64_w, i32_w]
      rfl
    refine pure_ (i := 5) (N := some 16) (v := ?_) (a' := ?_) #[true, true, true, false, true, true, false, false, false, false, false, false, false, false] rfl rfl (by kernel_rfl) (fun _ _ _ h => h) (Or.inl ⟨by rfl, ?_⟩) ?_ ?_
    rotate_left
    · intro w'
      go_simp
      with_reducible rfl
    rotate_left
    · simp only [Act.put, List.setIfInBounds_toArray, List.set_cons_zero, List.set_cons_succ, i64_w, i32_w]
      rfl
    refine pure_ (i := 6) (N := some 17) (v := ?_) (a' := ?_) #[true, true, true, false, true, true, true, false, false, false, false, false, false, false] rfl rfl (by kernel_rfl) (fun _ _ _ h => h) (Or.inl ⟨by rfl, ?_⟩) ?_ ?_
    rotate_left
    · intro w'
      go_simp
      with_reducible rfl
    rotate_left
    · simp only [Act.put, List.setIfInBounds_toArray, List.set_cons_zero, List.set_cons_succ, i64_w, i32_w]
      rfl
    refine take_ (i := 3) (N := some 14) (v := ?_) (a' := ?_) #[true, true, true, true, true, true, true, false, false, false, false, false, false, false] rfl rfl (by kernel_rfl) (fun _ _ _ h => h) (Or.inl ⟨by rfl, ?_⟩) hHeld ?_ ?_
    rotate_left
    · rintro w' ⟨s0, s1⟩
      go_simp
      with_reducible rfl
    rotate_left
    · simp only [Act.put, List.setIfInBounds_toArray, List.set_cons_zero, List.set_cons_succ, i64_w, i32_w]
      rfl
    refine take_ (i := 7) (N := some 18) (v := ?_) (a' := ?_) #[true, true, true, true, true, true, true, true, false, false, false, false, false, false] rfl rfl (by kernel_rfl) (fun _ _ _ h => h) (Or.inl ⟨by rfl, ?_⟩) hHeld ?_ ?_
    rotate_left
    · rintro w' ⟨s0, s1⟩
      go_simp
      with_reducible rfl
    rotate_left
    · simp only [Act.put, List.setIfInBounds_toArray, List.set_cons_zero, List.set_cons_succ, i64_w, i32_w]
      rfl
    refine pure_ (i := 8) (N := some 19) (v := ?_) (a' := ?_) #[true, true, true, true, true, true, true, true, true, false, false, false, false, false] rfl rfl (by kernel_rfl) (fun _ _ _ h => h) (Or.inl ⟨by rfl, ?_⟩) ?_ ?_
    rotate_left
    · intro w'
      go_simp
      with_reducible rfl
    rotate_left
    · simp only [Act.put, List.setIfInBounds_toArray, List.set_cons_zero, List.set_cons_succ, i64_w, i32_w]
      rfl
    refine pure_ (i := 9) (N := some 20) (v := ?_) (a' := ?_) #[true, true, true, true, true, true, true, true, true, true, false, false, false, false] rfl rfl (by kernel_rfl) (fun _ _ _ h => h) (Or.inl ⟨by rfl, ?_⟩) ?_ ?_
    rotate_left
    · intro w'
      go_simp
      with_reducible rfl
    rotate_left
    · simp only [Act.put, List.setIfInBounds_toArray, List.set_cons_zero, List.set_cons_succ, i64_w, i32_w]
      rfl
    refine pure_ (i := 10) (N := some 21) (v := ?_) (a' := ?_) #[true, true, true, true, true, true, true, true, true, true, true, false, false, false] rfl rfl (by kernel_rfl) (fun _ _ _ h => h) (Or.inl ⟨by rfl, ?_⟩) ?_ ?_
    rotate_left
    · intro w'
      go_simp
      with_reducible rfl
    rotate_left
    · simp only [Act.put, List.setIfInBounds_toArray, List.set_cons_zero, List.set_cons_succ, i64_w, i32_w]
      rfl
    refine take_ (i := 11) (N := some 22) (v := ?_) (a' := ?_) #[true, true, true, true, true, true, true, true, true, true, true, true, false, false] rfl rfl (by kernel_rfl) (fun _ _ _ h => h) (Or.inl ⟨by rfl, ?_⟩) hHeld ?_ ?_
    rotate_left
    · rintro w' ⟨s0, s1⟩
      go_simp
      with_reducible rfl
    rotate_left
    · simp only [Act.put, List.setIfInBounds_toArray, List.set_cons_zero, List.set_cons_succ, i64_w, i32_w]
      rfl
    refine pure_ (i := 12) (N := some 23) (v := ?_) (a' := ?_) #[true, true, true, true, true, true, true, true, true, true, true, true, true, false] rfl rfl (by kernel_rfl) (fun _ _ _ h => h) (Or.inl ⟨by rfl, ?_⟩) ?_ ?_
    rotate_left
    · intro w'
      go_simp
      with_reducible rfl
    rotate_left
    · simp only [Act.put, List.setIfInBounds_toArray, List.set_cons_zero, List.set_cons_succ, i64_w, i32_w]
      rfl
    refine last_ (i := 13) (N := none) #[true, true, true, true, true, true, true, true, true, true, true, true, true, true] rfl rfl (by kernel_rfl) (by decide) (fun K hK => ?_)
    refine skip_ (w1 := ?_) (by rfl) rfl ?_ ?_
    rotate_left
    · go_simp
      rfl
    refine hK.out _ _ ?_
    clear hK K
    refine done_ (by kernel_rfl) ?_
    go_wp2_with fail
    have hb3 : Below w.heap.size w (w.alloc (.cells #[.int .u8 n.f0, .string n.f1, .slice A2 n.f2.length q2, .string n.f3, .int .i64 (topI b), .slice none 0 0] 37)).drew := (below_alloc (Below.refl _ _) _).drew
    have hN3 : (w.alloc (.cells #[.int .u8 n.f0, .string n.f1, .slice A2 n.f2.length q2, .string n.f3, .int .i64 (topI b), .slice none 0 0] 37)).drew.heap[w.heap.size]? = some (.cells #[.int .u8 n.f0, .string n.f1, .slice A2 n.f2.length q2, .string n.f3, .int .i64 (topI b), .slice none 0 0] 37 (0, 0)) := blk_new w _
    have H3 := Lib.hid (H.out.below hb3)
    have hA3 := Lib.hid (Kd.R_below hA hb3)
    have hAt3 := Kd.S_below hAt hb3
    have hbb3 := Lib.hid (below_then hb hBw hb3)
    have hgt : gt < w.heap.size := Kd.S_lt h.t gt (by simp [Value.ownBlock])
    have hBw3 : B ≤ (w.alloc (.cells #[.int .u8 n.f0, .string n.f1, .slice A2 n.f2.length q2, .string n.f3, .int .i64 (topI b), .slice none 0 0] 37)).drew.heap.size := Nat.le_trans hBw hb3.size
    clear hA hAt d0 d1 d2 hN n4 f4 H h hb
    generalize (w.alloc (.cells #[.int .u8 n.f0, .string n.f1, .slice A2 n.f2.length q2, .string n.f3, .int .i64 (topI b), .slice none 0 0] 37)).drew = w3 at *
    have hnlt : w.heap.size < w3.heap.size := blk_lt hN3
    have hbs := hb3.size
    generalize w.heap.size = nb at *
    clear hb3
    obtain ⟨oki, v2, v5, hR2, hR5, hoki, hcc, hfr, hH⟩ := node_lend hAt3 (topI b) k2 k3
    obtain ⟨A5, q5, e5⟩ := Kd.R_slice hR5
    have c5 := hcc 5 v5 rfl
    have f5 := hfr 5
    subst e5
    have hgtne : some gt ≠ (Value.slice A5 (rd_T37 b.t (topI b)).f5.length q5).ownBlock := fun e => (hoki gt (hR5.1 gt e.symm)).2 rfl
    have hgo : go < w3.heap.size := Kd.Q_lt H3.out.op go (by simp [Value.ownBlock])
    have hk5' : (rd_T37 b.t (topI b)).f5.length < 16384 := hk5
    have c0 := H3.out.cell0
    have TC := fun (w' : World) (hb' : Below w3.heap.size w3 w') => top_calls B g gt qt b _ w' (H3.out.below hb') HOK.out
    refine start_ (n := 17) (S := fun w' => w'.cell? ⟨g, 0, none⟩ = some (.slice (some ⟨gt, 0, none⟩) b.t.length qt) ∧ w'.cell? ⟨gt, (topI b).toNat * 6 + 5, none⟩ = some (.slice A5 (rd_T37 b.t (topI b)).f5.length q5)) (ds := [16]) #[false, false, false, false, false, false, false, false, false, false, false, false, false, false, false, false, false] (by kernel_rfl) rfl rfl ⟨c0, c5⟩ (fun hHeld => ?_)
    refine pure_ (i := 0) (N := some 24) (v := ?_) (a' := ?_) #[true, false, false, false, false, false, false, false, false, false, false, false, false, false, false, false, false] rfl rfl (by kernel_rfl) (fun _ _ _ h => h) (Or.inl ⟨by rfl, ?_⟩) ?_ ?_
    rotate_left
    · intro w'
      go_simp
      with_reducible rfl
    rotate_left
    · simp only [Act.put, List.setIfInBounds_toArray, List.set_cons_zero, List.set_cons_succ, i64_w, i32_w]
      rfl
    refine pure_ (i := 2) (N := some 26) (v := ?_) (a' := ?_) #[true, false, true, false, false, false, false, false, false, false, false, false, false, false, false, false, false] rfl rfl (by kernel_rfl) (fun _ _ _ h => h) (Or.inl ⟨by rfl, ?_⟩) ?_ ?_
    rotate_left
    · intro w'
      go_simp
      with_reducible rfl
    rotate_left
    · simp only [Act.put, List.setIfInBounds_toArray, List.set_cons_zero, List.set_cons_succ, i64_w, i32_w]
      rfl
    refine pure_ (i := 7) (N := some 31) (v := ?_) (a' := ?_) #[true, false, true, false, false, false, false, true, false, false, false, false, false, false, false, false, false] rfl rfl (by kernel_rfl) (fun _ _ _ h => h) (Or.inl ⟨by rfl, ?_⟩) ?_ ?_
    rotate_left
    · intro w'
      go_simp
      with_reducible rfl
    rotate_left
    · simp only [Act.put, List.setIfInBounds_toArray, List.set_cons_zero, List.set_cons_succ, i64_w, i32_w]
      rfl
    refine pure_ (i := 8) (N := some 32) (v := ?_) (a' := ?_) #[true, false, true, false, false, false, false, true, true, false, false, false, false, false, false, false, false] rfl rfl (by kernel_rfl) (fun _ _ _ h => h) (Or.inl ⟨by rfl, ?_⟩) ?_ ?_
    rotate_left
    · intro w'
      go_simp
      with_reducible rfl
    rotate_left
    · simp only [Act.put, List.setIfInBounds_toArray, List.set_cons_zero, List.set_cons_succ, i64_w, i32_w]
      rfl
    refine pure_ (i := 9) (N := some 33) (v := ?_) (a' := ?_) #[true, false, true, false, false, false, false, true, true, true, false, false, false, false, false, false, false] rfl rfl (by kernel_rfl) (fun _ _ _ h => h) (Or.inl ⟨by rfl, ?_⟩) ?_ ?_
    rotate_left
    · intro w'
      go_simp
      with_reducible rfl
    rotate_left
    · simp only [Act.put, List.setIfInBounds_toArray, List.set_cons_zero, List.set_cons_succ, i64_w, i32_w]
      rfl
    refine take_ (i := 10) (N := some 34) (v := ?_) (a' := ?_) #[true, false, true, false, false, false, false, true, true, true, true, false, false, false, false, false, false] rfl rfl (by kernel_rfl) (fun _ _ _ h => h) (Or.inl ⟨by rfl, ?_⟩) hHeld ?_ ?_
    rotate_left
    · rintro w' ⟨s0, s1⟩
      go_simp
      with_reducible rfl
    rotate_left
    · simp only [Act.put, List.setIfInBounds_toArray, List.set_cons_zero, List.set_cons_succ, i64_w, i32_w]
      rfl
    refine pure_ (i := 11) (N := some 35) (v := ?_) (a' := ?_) #[true, false, true, false, false, false, false, true, true, true, true, true, false, false, false, false, false] rfl rfl (by kernel_rfl) (fun _ _ _ h => h) (Or.inl ⟨by rfl, ?_⟩) ?_ ?_
    rotate_left
    · intro w'
      go_simp
      with_reducible rfl
    rotate_left
    · simp only [Act.put, List.setIfInBounds_toArray, List.set_cons_zero, List.set_cons_succ, i64_w, i32_w]
      rfl
    refine join_ (σ := Unit) 4 #[true, true, true, true, true, true, true, true, true, true, true, true, true, false, false, false, false] (fun _ => [(25, .pointer (some ⟨gt, (topI b).toNat * 6, none⟩)), (27, .pointer (some ⟨gt, (topI b).toNat * 6, none⟩)), (36, .slice (some ⟨w3.heap.size, 0, none⟩) 1 1), (28, .pointer (some ⟨gt, (topI b).toNat * 6, none⟩)), (29, .pointer (some ⟨gt, (topI b).toNat * 6 + 5, none⟩)), (30, .slice A5 (rd_T37 b.t (topI b)).f5.length q5)]) (fun _ w' => ∃ W : World, w' = W.alloc (.cells #[.int .i64 (b.t.length : Int)] 3) ∧ Below w3.heap.size w3 W ∧ W.heap.size = w3.heap.size) ?_ ?_
    rotate_left
    · intro hCont
      refine two_ (i := 1) (j := 12) (Ni := some 25) (Nj := some 36) #[true, true, true, false, false, false, false, true, true, true, true, true, false, false, false, false, false] #[true, false, true, false, false, false, false, true, true, true, true, true, true, false, false, false, false] rfl rfl rfl rfl (by kernel_rfl) (by decide) (by decide) (fun K hK => ?_) (fun K hK => ?_)
      · skip
        refine goes_ Tryd.func77 (by kernel_rfl) rfl #[.pointer (some ⟨g, 0, none⟩)] (by rfl) rfl rfl (by simp only [List.map_toArray, List.map_cons, List.map_nil]; rfl) ?_
        with_reducible refine (TC _ (by repeat (first | exact Below.refl _ _ | apply below_alloc | apply pw_below_drewN | apply Below.drew))).mono ?_
        rintro e w41 ⟨rfl, ⟨nd1, rfl⟩⟩
        refine ⟨_, rfl, ?_⟩
        refine hK.out _ _ ⟨(pw_cell_below (by repeat (first | exact Below.refl _ _ | apply below_alloc | apply pw_below_drewN | apply Below.drew)) c0), (pw_cell_below (by repeat (first | exact Below.refl _ _ | apply below_alloc | apply pw_below_drewN | apply Below.drew)) c5)⟩ (fun hHeld => ?_)
        clear hK K
        refine norm_ (a' := ?_) ?_ ?_
        rotate_left
        · show Act.put _ (some 25) _ = _
          simp only [Act.put, List.setIfInBounds_toArray, List.set_cons_zero, List.set_cons_succ, i64_w, i32_w]
          rfl
        refine two_ (i := 3) (j := 12) (Ni := some 27) (Nj := some 36) #[true, true, true, true, false, false, false, true, true, true, true, true, false, false, false, false, false] #[true, true, true, false, false, false, false, true, true, true, true, true, true, false, false, false, false] rfl rfl rfl rfl (by kernel_rfl) (by decide) (by decide) (fun K hK => ?_) (fun K hK => ?_)
        · skip
          refine goes_ Tryd.func77 (by kernel_rfl) rfl #[.pointer (some ⟨g, 0, none⟩)] (by rfl) rfl rfl (by simp only [List.map_toArray, List.map_cons, List.map_nil]; rfl) ?_
          with_reducible refine (TC _ (by repeat (first | exact Below.refl _ _ | apply below_alloc | apply pw_below_drewN | apply Below.drew))).mono ?_
          rintro e w43 ⟨rfl, ⟨nd3, rfl⟩⟩
          refine ⟨_, rfl, ?_⟩
          refine hK.out _ _ ⟨(pw_cell_below (by repeat (first | exact Below.refl _ _ | apply below_alloc | apply pw_below_drewN | apply Below.drew)) c0), (pw_cell_below (by repeat (first | exact Below.refl _ _ | apply below_alloc | apply pw_below_drewN | apply Below.drew)) c5)⟩ (fun hHeld => ?_)
          clear hK K
          refine norm_ (a' := ?_) ?_ ?_
          rotate_left
          · show Act.put _ (some 27) _ = _
            simp only [Act.put, List.setIfInBounds_toArray, List.set_cons_zero, List.set_cons_succ, i64_w, i32_w]
            rfl
          refine pure_ (i := 4) (N := some 28) (v := ?_) (a' := ?_) #[true, true, true, true, true, false, false, true, true, true, true, true, false, false, false, false, false] rfl rfl (by kernel_rfl) (fun _ _ _ h => h) (Or.inl ⟨by rfl, ?_⟩) ?_ ?_
          rotate_left
          · intro w'
            go_simp
            with_reducible rfl
          rotate_left
          · simp only [Act.put, List.setIfInBounds_toArray, List.set_cons_zero, List.set_cons_succ, i64_w, i32_w]
            rfl
          refine pure_ (i := 5) (N := some 29) (v := ?_) (a' := ?_) #[true, true, true, true, true, true, false, true, true, true, true, true, false, false, false, false, false] rfl rfl (by kernel_rfl) (fun _ _ _ h => h) (Or.inl ⟨by rfl, ?_⟩) ?_ ?_
          rotate_left
          · intro w'
            go_simp
            with_reducible rfl
          rotate_left
          · simp only [Act.put, List.setIfInBounds_toArray, List.set_cons_zero, List.set_cons_succ, i64_w, i32_w]
            rfl
          refine take_ (i := 6) (N := some 30) (v := ?_) (a' := ?_) #[true, true, true, true, true, true, true, true, true, true, true, true, false, false, false, false, false] rfl rfl (by kernel_rfl) (fun _ _ _ h => h) (Or.inl ⟨by rfl, ?_⟩) hHeld ?_ ?_
          rotate_left
          · rintro w' ⟨s0, s1⟩
            go_simp
            with_reducible rfl
          rotate_left
          · simp only [Act.put, List.setIfInBounds_toArray, List.set_cons_zero, List.set_cons_succ, i64_w, i32_w]
            rfl
          refine one_ (i := 12) (N := some 36) #[true, true, true, true, true, true, true, true, true, true, true, true, true, false, false, false, false] rfl rfl (by kernel_rfl) (by decide) (fun K hK => ?_)
          refine value_ (w1 := ?_) (v := ?_) (by rfl) rfl ?_ ?_
          rotate_left 2
          · go_simp
            constructor
            · rfl
            · rfl
          refine hK.out _ _ ⟨(pw_cell_below (by repeat (first | exact Below.refl _ _ | apply below_alloc | apply pw_below_drewN | apply Below.drew)) c0), (pw_cell_below (by repeat (first | exact Below.refl _ _ | apply below_alloc | apply pw_below_drewN | apply Below.drew)) c5)⟩ (fun hHeld => ?_)
          clear hK K
          refine norm_ (a' := ?_) ?_ ?_
          rotate_left
          · show Act.put _ (some 36) _ = _
            simp only [Act.put, List.setIfInBounds_toArray, List.set_cons_zero, List.set_cons_succ, i64_w, i32_w]
            rfl
          exact norm_ (by simp only [putAll, Act.put, List.setIfInBounds_toArray, List.set_cons_zero, List.set_cons_succ]) (hCont () _ (by first | exact ⟨_, rfl, (by repeat (first | exact Below.refl _ _ | apply below_alloc | apply pw_below_drewN | apply Below.drew)), rfl⟩ | exact ⟨_, alloc_drewN1 _ _ _, (by repeat (first | exact Below.refl _ _ | apply below_alloc | apply pw_below_drewN | apply Below.drew)), rfl⟩ | exact ⟨_, alloc_drewN2 _ _ _ _, (by repeat (first | exact Below.refl _ _ | apply below_alloc | apply pw_below_drewN | apply Below.drew)), rfl⟩ | exact ⟨_, alloc_drewN3 _ _ _ _, (by repeat (first | exact Below.refl _ _ | apply below_alloc | apply pw_below_drewN | apply Below.drew)), rfl⟩))
        · skip
          refine value_ (w1 := ?_) (v := ?_) (by rfl) rfl ?_ ?_
          rotate_left 2
          · go_simp
            constructor
            · rfl
            · rfl
          refine hK.out _ _ ⟨(pw_cell_below (by repeat (first | exact Below.refl _ _ | apply below_alloc | apply pw_below_drewN | apply Below.drew)) c0), (pw_cell_below (by repeat (first | exact Below.refl _ _ | apply below_alloc | apply pw_below_drewN | apply Below.drew)) c5)⟩ (fun hHeld => ?_)
          clear hK K
          refine norm_ (a' := ?_) ?_ ?_
          rotate_left
          · show Act.put _ (some 36) _ = _
            simp only [Act.put, List.setIfInBounds_toArray, List.set_cons_zero, List.set_cons_succ, i64_w, i32_w]
            rfl
          refine one_ (i := 3) (N := some 27) #[true, true, true, true, false, false, false, true, true, true, true, true, true, false, false, false, false] rfl rfl (by kernel_rfl) (by decide) (fun K hK => ?_)
          refine goes_ Tryd.func77 (by kernel_rfl) rfl #[.pointer (some ⟨g, 0, none⟩)] (by rfl) rfl rfl (by simp only [List.map_toArray, List.map_cons, List.map_nil]; rfl) ?_
          with_reducible refine (TC _ (by repeat (first | exact Below.refl _ _ | apply below_alloc | apply pw_below_drewN | apply Below.drew))).mono ?_
          rintro e w43 ⟨rfl, ⟨nd3, rfl⟩⟩
          refine ⟨_, rfl, ?_⟩
          refine hK.out _ _ ⟨(pw_cell_below (by repeat (first | exact Below.refl _ _ | apply below_alloc | apply pw_below_drewN | apply Below.drew)) c0), (pw_cell_below (by repeat (first | exact Below.refl _ _ | apply below_alloc | apply pw_below_drewN | apply Below.drew)) c5)⟩ (fun hHeld => ?_)
          clear hK K
          refine norm_ (a' := ?_) ?_ ?_
          rotate_left
          · show Act.put _ (some 27) _ = _
            simp only [Act.put, List.setIfInBounds_toArray, List.set_cons_zero, List.set_cons_succ, i64_w, i32_w]
            rfl
          refine pure_ (i := 4) (N := some 28) (v := ?_) (a' := ?_) #[true, true, true, true, true, false, false, true, true, true, true, true, true, false, false, false, false] rfl rfl (by kernel_rfl) (fun _ _ _ h => h) (Or.inl ⟨by rfl, ?_⟩) ?_ ?_
          rotate_left
          · intro w'
            go_simp
            with_reducible rfl
          rotate_left
          · simp only [Act.put, List.setIfInBounds_toArray, List.set_cons_zero, List.set_cons_succ, i64_w, i32_w]
            rfl
          refine pure_ (i := 5) (N := some 29) (v := ?_) (a' := ?_) #[true, true, true, true, true, true, false, true, true, true, true, true, true, false, false, false, false] rfl rfl (by kernel_rfl) (fun _ _ _ h => h) (Or.inl ⟨by rfl, ?_⟩) ?_ ?_
          rotate_left
          · intro w'
            go_simp
            with_reducible rfl
          rotate_left
          · simp only [Act.put, List.setIfInBounds_toArray, List.set_cons_zero, List.set_cons_succ, i64_w, i32_w]
            rfl
          refine take_ (i := 6) (N := some 30) (v := ?_) (a' := ?_) #[true, true, true, true, true, true, true, true, true, true, true, true, true, false, false, false, false] rfl rfl (by kernel_rfl) (fun _ _ _ h => h) (Or.inl ⟨by rfl, ?_⟩) hHeld ?_ ?_
          rotate_left
          · rintro w' ⟨s0, s1⟩
            go_simp
            with_reducible rfl
          rotate_left
          · simp only [Act.put, List.setIfInBounds_toArray, List.set_cons_zero, List.set_cons_succ, i64_w, i32_w]
            rfl
          exact norm_ (by simp only [putAll, Act.put, List.setIfInBounds_toArray, List.set_cons_zero, List.set_cons_succ]) (hCont () _ (by first | exact ⟨_, rfl, (by repeat (first | exact Below.refl _ _ | apply below_alloc | apply pw_below_drewN | apply Below.drew)), rfl⟩ | exact ⟨_, alloc_drewN1 _ _ _, (by repeat (first | exact Below.refl _ _ | apply below_alloc | apply pw_below_drewN | apply Below.drew)), rfl⟩ | exact ⟨_, alloc_drewN2 _ _ _ _, (by repeat (first | exact Below.refl _ _ | apply below_alloc | apply pw_below_drewN | apply Below.drew)), rfl⟩ | exact ⟨_, alloc_drewN3 _ _ _ _, (by repeat (first | exact Below.refl _ _ | apply below_alloc | apply pw_below_drewN | apply Below.drew)), rfl⟩))
      · skip
        refine value_ (w1 := ?_) (v := ?_) (by rfl) rfl ?_ ?_
        rotate_left 2
        · go_simp
          constructor
          · rfl
          · rfl
        refine hK.out _ _ ⟨(pw_cell_below (by repeat (first | exact Below.refl _ _ | apply below_alloc | apply pw_below_drewN | apply Below.drew)) c0), (pw_cell_below (by repeat (first | exact Below.refl _ _ | apply below_alloc | apply pw_below_drewN | apply Below.drew)) c5)⟩ (fun hHeld => ?_)
        clear hK K
        refine norm_ (a' := ?_) ?_ ?_
        rotate_left
        · show Act.put _ (some 36) _ = _
          simp only [Act.put, List.setIfInBounds_toArray, List.set_cons_zero, List.set_cons_succ, i64_w, i32_w]
          rfl
        refine one_ (i := 1) (N := some 25) #[true, true, true, false, false, false, false, true, true, true, true, true, true, false, false, false, false] rfl rfl (by kernel_rfl) (by decide) (fun K hK => ?_)
        refine goes_ Tryd.func77 (by kernel_rfl) rfl #[.pointer (some ⟨g, 0, none⟩)] (by rfl) rfl rfl (by simp only [List.map_toArray, List.map_cons, List.map_nil]; rfl) ?_
        with_reducible refine (TC _ (by repeat (first | exact Below.refl _ _ | apply below_alloc | apply pw_below_drewN | apply Below.drew))).mono ?_
        rintro e w41 ⟨rfl, ⟨nd1, rfl⟩⟩
        refine ⟨_, rfl, ?_⟩
        refine hK.out _ _ ⟨(pw_cell_below (by repeat (first | exact Below.refl _ _ | apply below_alloc | apply pw_below_drewN | apply Below.drew)) c0), (pw_cell_below (by repeat (first | exact Below.refl _ _ | apply below_alloc | apply pw_below_drewN | apply Below.drew)) c5)⟩ (fun hHeld => ?_)
        clear hK K
        refine norm_ (a' := ?_) ?_ ?_
        rotate_left
        · show Act.put _ (some 25) _ = _
          simp only [Act.put, List.setIfInBounds_toArray, List.set_cons_zero, List.set_cons_succ, i64_w, i32_w]
          rfl
        refine one_ (i := 3) (N := some 27) #[true, true, true, true, false, false, false, true, true, true, true, true, true, false, false, false, false] rfl rfl (by kernel_rfl) (by decide) (fun K hK => ?_)
        refine goes_ Tryd.func77 (by kernel_rfl) rfl #[.pointer (some ⟨g, 0, none⟩)] (by rfl) rfl rfl (by simp only [List.map_toArray, List.map_cons, List.map_nil]; rfl) ?_
        with_reducible refine (TC _ (by repeat (first | exact Below.refl _ _ | apply below_alloc | apply pw_below_drewN | apply Below.drew))).mono ?_
        rintro e w43 ⟨rfl, ⟨nd3, rfl⟩⟩
        refine ⟨_, rfl, ?_⟩
        refine hK.out _ _ ⟨(pw_cell_below (by repeat (first | exact Below.refl _ _ | apply below_alloc | apply pw_below_drewN | apply Below.drew)) c0), (pw_cell_below (by repeat (first | exact Below.refl _ _ | apply below_alloc | apply pw_below_drewN | apply Below.drew)) c5)⟩ (fun hHeld => ?_)
        clear hK K
        refine norm_ (a' := ?_) ?_ ?_
        rotate_left
        · show Act.put _ (some 27) _ = _
          simp only [Act.put, List.setIfInBounds_toArray, List.set_cons_zero, List.set_cons_succ, i64_w, i32_w]
          rfl
        refine pure_ (i := 4) (N := some 28) (v := ?_) (a' := ?_) #[true, true, true, true, true, false, false, true, true, true, true, true, true, false, false, false, false] rfl rfl (by kernel_rfl) (fun _ _ _ h => h) (Or.inl ⟨by rfl, ?_⟩) ?_ ?_
        rotate_left
        · intro w'
          go_simp
          with_reducible rfl
        rotate_left
        · simp only [Act.put, List.setIfInBounds_toArray, List.set_cons_zero, List.set_cons_succ, i64_w, i32_w]
          rfl
        refine pure_ (i := 5) (N := some 29) (v := ?_) (a' := ?_) #[true, true, true, true, true, true, false, true, true, true, true, true, true, false, false, false, false] rfl rfl (by kernel_rfl) (fun _ _ _ h => h) (Or.inl ⟨by rfl, ?_⟩) ?_ ?_
        rotate_left
        · intro w'
          go_simp
          with_reducible rfl
        rotate_left
        · simp only [Act.put, List.setIfInBounds_toArray, List.set_cons_zero, List.set_cons_succ, i64_w, i32_w]
          rfl
        refine take_ (i := 6) (N := some 30) (v := ?_) (a' := ?_) #[true, true, true, true, true, true, true, true, true, true, true, true, true, false, false, false, false] rfl rfl (by kernel_rfl) (fun _ _ _ h => h) (Or.inl ⟨by rfl, ?_⟩) hHeld ?_ ?_
        rotate_left
        · rintro w' ⟨s0, s1⟩
          go_simp
          with_reducible rfl
        rotate_left
        · simp only [Act.put, List.setIfInBounds_toArray, List.set_cons_zero, List.set_cons_succ, i64_w, i32_w]
          rfl
        exact norm_ (by simp only [putAll, Act.put, List.setIfInBounds_toArray, List.set_cons_zero, List.set_cons_succ]) (hCont () _ (by first | exact ⟨_, rfl, (by repeat (first | exact Below.refl _ _ | apply below_alloc | apply pw_below_drewN | apply Below.drew)), rfl⟩ | exact ⟨_, alloc_drewN1 _ _ _, (by repeat (first | exact Below.refl _ _ | apply below_alloc | apply pw_below_drewN | apply Below.drew)), rfl⟩ | exact ⟨_, alloc_drewN2 _ _ _ _, (by repeat (first | exact Below.refl _ _ | apply below_alloc | apply pw_below_drewN | apply Below.drew)), rfl⟩ | exact ⟨_, alloc_drewN3 _ _ _ _, (by repeat (first | exact Below.refl _ _ | apply below_alloc | apply pw_below_drewN | apply Below.drew)), rfl⟩))
    rintro _ w4 ⟨W, rfl, hbW, hsW⟩
    have hHeld : (W.alloc (.cells #[.int .i64 (b.t.length : Int)] 3)).cell? ⟨g, 0, none⟩ = some (.slice (some ⟨gt, 0, none⟩) b.t.length qt) ∧ (W.alloc (.cells #[.int .i64 (b.t.length : Int)] 3)).cell? ⟨gt, (topI b).toNat * 6 + 5, none⟩ = some (.slice A5 (rd_T37 b.t (topI b)).f5.length q5) := ⟨pw_cell_below (below_alloc hbW _) c0, pw_cell_below (below_alloc hbW _) c5⟩
    rw [← hsW]
    refine norm_ (a' := ?_) ?_ ?_
    rotate_left
    · simp only [putAll, Act.put, List.setIfInBounds_toArray, List.set_cons_zero, List.set_cons_succ]
      rfl
    refine one_ (i := 13) (N := some 37) #[true, true, true, true, true, true, true, true, true, true, true, true, true, true, false, false, false] rfl rfl (by kernel_rfl) (by decide) (fun K hK => ?_)
    have hRW := Kd.R_mono (Kd.R_below hR5 hbW) (fun k hk => (Or.inl hk : oki k ∨ (some k ≠ (Value.slice (some ⟨go, oo, none⟩) b.op.length co).ownBlock ∧ ¬ okA k) ∧ W.heap.size ≤ k))
    refine Kd.R_append_step (Kd.int .i64) (w0 := w0) B rfl (.tmp 30) (.tmp 36) 35 3 (.int .i64 0) 8 rfl Tryd.underlying35 info3 rfl (by decide) (by decide) (.slice A5 (rd_T37 b.t (topI b)).f5.length q5) (rd_T37 b.t (topI b)).f5 (b.t.length : Int) [.int .i64 (b.t.length : Int)] (fun k => oki k ∨ (some k ≠ (Value.slice (some ⟨go, oo, none⟩) b.op.length co).ownBlock ∧ ¬ okA k) ∧ W.heap.size ≤ k) (fun _ => False) rfl rfl rfl (fun _ hk => hk.elim) (fun k hk => Or.inr ⟨⟨fun e => by simp [Value.ownBlock] at e; omega, fun e => by have := hAlt k e; omega⟩, hk⟩) hRW (below_then hbb3.out hBw3 hbW) (Nat.le_trans hBw3 hbW.size) (by omega) ?_
    intro v6 w5 ho5 hb5 hg5 hat5
    obtain ⟨A6, q6, rfl⟩ := Kd.R_slice ho5
    rw [List.length_append, List.length_singleton] at ho5
    rw [List.length_append, List.length_singleton]
    have hB5 := blk_grown (H3.out.below hbW).box hg5 (Kd.R_ne hRW (H3.out.below hbW).box (by decide))
    have c5' := (World.cell?_of_block (a := ⟨gt, (topI b).toNat * 6 + 5, none⟩) (hg5.block gt (by omega) hgtne)).trans (pw_cell_below hbW c5)
    have f5' := (World.frozen?_of_block (a := ⟨gt, (topI b).toNat * 6 + 5, none⟩) (hg5.block gt (by omega) hgtne)).trans ((hbW.frozen (p := ⟨gt, (topI b).toNat * 6 + 5, none⟩) (show gt < w3.heap.size by omega)).trans f5)
    refine hK.out _ _ ⟨(by rw [blk_cell hB5]; rfl), c5'⟩ (fun hHeld => ?_)
    clear hK K
    refine norm_ (a' := ?_) ?_ ?_
    rotate_left
    · show Act.put _ (some 37) _ = _
      simp only [Act.put, List.setIfInBounds_toArray, List.set_cons_zero, List.set_cons_succ, i64_w, i32_w]
      rfl
    refine pure_ (i := 14) (N := some 38) (v := ?_) (a' := ?_) #[true, true, true, true, true, true, true, true, true, true, true, true, true, true, true, false, false] rfl rfl (by kernel_rfl) (fun _ _ _ h => h) (Or.inl ⟨by rfl, ?_⟩) ?_ ?_
    rotate_left
    · intro w'
      go_simp
      with_reducible rfl
    rotate_left
    · simp only [Act.put, List.setIfInBounds_toArray, List.set_cons_zero, List.set_cons_succ, i64_w, i32_w]
      rfl
    refine pure_ (i := 15) (N := some 39) (v := ?_) (a' := ?_) #[true, true, true, true, true, true, true, true, true, true, true, true, true, true, true, true, false] rfl rfl (by kernel_rfl) (fun _ _ _ h => h) (Or.inl ⟨by rfl, ?_⟩) ?_ ?_
    rotate_left
    · intro w'
      go_simp
      with_reducible rfl
    rotate_left
    · simp only [Act.put, List.setIfInBounds_toArray, List.set_cons_zero, List.set_cons_succ, i64_w, i32_w]
      rfl
    refine last_ (i := 16) (N := none) #[true, true, true, true, true, true, true, true, true, true, true, true, true, true, true, true, true] rfl rfl (by kernel_rfl) (by decide) (fun K hK => ?_)
    refine skip_ (w1 := ?_) (by rfl) rfl ?_ ?_
    rotate_left
    · go_simp
      rfl
    refine hK.out _ _ ?_
    clear hK K
    refine done_ (by kernel_rfl) ?_
    have hgtW : gt < W.heap.size := by omega
    have hHW := Kd.H_below hH hbW
    have hH5 := Kd.H_grown (Kd.H_widen hHW) hg5 (fun k hk => Or.inl (hR5.1 k hk))
    obtain ⟨v2', e2', hR2'⟩ := Kd.M_over (d := Kd.slice 43 k43) ⟨v2, rfl, Kd.R_below hR2 hbW⟩ hRW (by decide) hg5
    obtain rfl : v2 = v2' := by injection e2'
    have hM5 := k37_mkM w5 B (fun k => oki k ∨ (some k ≠ (Value.slice (some ⟨go, oo, none⟩) b.op.length co).ownBlock ∧ ¬ okA k) ∧ W.heap.size ≤ k) { rd_T37 b.t (topI b) with f5 := (rd_T37 b.t (topI b)).f5 ++ [(b.t.length : Int)] } (Kd.R_mono hR2' (fun k hk => Or.inl hk)) ho5
    obtain ⟨hS6, hg6⟩ := Kd.S_seg (okg := fun _ => False) (Kd.H_mono hH5 (fun k hk => ⟨hk, id⟩)) k2 k3 (seg := [Value.slice A6 ((rd_T37 b.t (topI b)).f5.length + 1) q6]) (j := 5) (Nat.le_refl 6) hM5 (fun k hk => Or.inl hk) (fun k hk => hk.elim)
    change Kd.S k37 37 (w5.setCell ⟨gt, (topI b).toNat * 6 + 5, none⟩ (Value.slice A6 ((rd_T37 b.t (topI b)).f5.length + 1) q6)) B _ _ _ at hS6
    change World.grownBy w5 (w5.setCell ⟨gt, (topI b).toNat * 6 + 5, none⟩ (Value.slice A6 ((rd_T37 b.t (topI b)).f5.length + 1) q6)) _ at hg6
    have hggt : some g ≠ some gt := Kd.S_ne H3.out.t H3.out.box (by decide)
    obtain ⟨tcs, htc⟩ := Kd.S_typed H3.out.t gt (by simp [Value.ownBlock])
    have hgtgo : some gt ≠ some go := Kd.Q_ne H3.out.op htc (by decide)
    have hB6 := blk_grown hB5 hg6 hggt
    have hNW : W.heap[nb]? = _ := blk_below hN3 hbW
    have hN6 := blk_grown (blk_grown hNW hg5 (Kd.R_ne hRW hNW (by decide))) hg6 (by intro e; injection e with e; omega)
    have hop6 := Kd.Q_grown1 (Kd.Q_grown1 (Kd.Q_below H3.out.op hbW) rfl hg5 (fun e => (hoki go (hR5.1 go (by rw [e]; simp [Value.ownBlock]))).1.1 (by simp [Value.ownBlock]))) rfl hg6 (by simpa [Value.ownBlock] using hgtgo)
    obtain ⟨va', ea', hA5⟩ := Kd.M_over (d := Kd.slice 43 k43) ⟨_, rfl, Kd.R_below hA3.out hbW⟩ hRW (by decide) hg5
    obtain rfl : _ = va' := by injection ea'
    have hA6 := Kd.R_grown hA5 hg6 (fun k hk => by simpa [Value.ownBlock] using (hAo k hk).2)
    have hb6 : Below B w0 (w5.setCell ⟨gt, (topI b).toNat * 6 + 5, none⟩ (Value.slice A6 ((rd_T37 b.t (topI b)).f5.length + 1) q6)) := hb5.setCell (Kd.S_base H3.out.t gt (by simp [Value.ownBlock])) _
    have hs6 : w3.heap.size ≤ (w5.setCell ⟨gt, (topI b).toNat * 6 + 5, none⟩ (Value.slice A6 ((rd_T37 b.t (topI b)).f5.length + 1) q6)).heap.size := Nat.le_trans hbW.size (Nat.le_trans hg5.size hg6.size)
    clear hM5 hH5 hHW
    generalize w5.setCell ⟨gt, (topI b).toNat * 6 + 5, none⟩ (Value.slice A6 ((rd_T37 b.t (topI b)).f5.length + 1) q6) = w6 at *
    clear hR2 hR5 hH hcc hfr c5 f5 c0 TC hbW hsW hRW ho5 hb5 hg5 hat5 hB5 c5' f5' hg6 hNW hAt3 H3
    have hBw6 : B ≤ w6.heap.size := Nat.le_trans hBw3 hs6
    go_wp2_with fail
    refine start_ (n := 11) (S := fun w' => w'.cell? ⟨g, 0, none⟩ = some (.slice (some ⟨gt, 0, none⟩) b.t.length qt) ∧ w'.cell? ⟨nb, 0, none⟩ = some (.int .u8 n.f0) ∧ w'.cell? ⟨nb, 1, none⟩ = some (.string n.f1) ∧ w'.cell? ⟨nb, 2, none⟩ = some (.slice A2 n.f2.length q2) ∧ w'.cell? ⟨nb, 3, none⟩ = some (.string n.f3) ∧ w'.cell? ⟨nb, 4, none⟩ = some (.int .i64 (topI b)) ∧ w'.cell? ⟨nb, 5, none⟩ = some (.slice none 0 0)) (ds := [10]) #[false, false, false, false, false, false, false, false, false, false, false] (by kernel_rfl) rfl rfl ⟨(show w6.cell? ⟨g, 0, none⟩ = _ by rw [blk_cell hB6]; rfl), (show w6.cell? ⟨nb, 0, none⟩ = _ by rw [blk_cell hN6]; rfl), (show w6.cell? ⟨nb, 1, none⟩ = _ by rw [blk_cell hN6]; rfl), (show w6.cell? ⟨nb, 2, none⟩ = _ by rw [blk_cell hN6]; rfl), (show w6.cell? ⟨nb, 3, none⟩ = _ by rw [blk_cell hN6]; rfl), (show w6.cell? ⟨nb, 4, none⟩ = _ by rw [blk_cell hN6]; rfl), (show w6.cell? ⟨nb, 5, none⟩ = _ by rw [blk_cell hN6]; rfl)⟩ (fun hHeld => ?_)
    refine pure_ (i := 0) (N := some 40) (v := ?_) (a' := ?_) #[true, false, false, false, false, false, false, false, false, false, false] rfl rfl (by kernel_rfl) (fun _ _ _ h => h) (Or.inl ⟨by rfl, ?_⟩) ?_ ?_
    rotate_left
    · intro w'
      go_simp
      with_reducible rfl
    rotate_left
    · simp only [Act.put, List.setIfInBounds_toArray, List.set_cons_zero, List.set_cons_succ, i64_w, i32_w]
      rfl
    refine pure_ (i := 1) (N := some 41) (v := ?_) (a' := ?_) #[true, true, false, false, false, false, false, false, false, false, false] rfl rfl (by kernel_rfl) (fun _ _ _ h => h) (Or.inl ⟨by rfl, ?_⟩) ?_ ?_
    rotate_left
    · intro w'
      go_simp
      with_reducible rfl
    rotate_left
    · simp only [Act.put, List.setIfInBounds_toArray, List.set_cons_zero, List.set_cons_succ, i64_w, i32_w]
      rfl
    refine pure_ (i := 2) (N := some 42) (v := ?_) (a' := ?_) #[true, true, true, false, false, false, false, false, false, false, false] rfl rfl (by kernel_rfl) (fun _ _ _ h => h) (Or.inl ⟨by rfl, ?_⟩) ?_ ?_
    rotate_left
    · intro w'
      go_simp
      with_reducible rfl
    rotate_left
    · simp only [Act.put, List.setIfInBounds_toArray, List.set_cons_zero, List.set_cons_succ, i64_w, i32_w]
      rfl
    refine pure_ (i := 3) (N := some 43) (v := ?_) (a' := ?_) #[true, true, true, true, false, false, false, false, false, false, false] rfl rfl (by kernel_rfl) (fun _ _ _ h => h) (Or.inl ⟨by rfl, ?_⟩) ?_ ?_
    rotate_left
    · intro w'
      go_simp
      with_reducible rfl
    rotate_left
    · simp only [Act.put, List.setIfInBounds_toArray, List.set_cons_zero, List.set_cons_succ, i64_w, i32_w]
      rfl
    refine take_ (i := 4) (N := some 44) (v := ?_) (a' := ?_) #[true, true, true, true, true, false, false, false, false, false, false] rfl rfl (by kernel_rfl) (fun _ _ _ h => h) (Or.inl ⟨by rfl, ?_⟩) hHeld ?_ ?_
    rotate_left
    · rintro w' ⟨s0, s1, s2, s3, s4, s5, s6⟩
      go_simp
      with_reducible rfl
    rotate_left
    · simp only [Act.put, List.setIfInBounds_toArray, List.set_cons_zero, List.set_cons_succ, i64_w, i32_w]
      rfl
    refine take_ (i := 5) (N := some 45) (v := ?_) (a' := ?_) #[true, true, true, true, true, true, false, false, false, false, false] rfl rfl (by kernel_rfl) (fun _ _ _ h => h) (Or.inl ⟨by rfl, ?_⟩) hHeld ?_ ?_
    rotate_left
    · rintro w' ⟨s0, s1, s2, s3, s4, s5, s6⟩
      go_simp
      with_reducible rfl
    rotate_left
    · simp only [Act.put, List.setIfInBounds_toArray, List.set_cons_zero, List.set_cons_succ, i64_w, i32_w]
      rfl
    refine one_ (i := 6) (N := some 46) #[true, true, true, true, true, true, true, false, false, false, false] rfl rfl (by kernel_rfl) (by decide) (fun K hK => ?_)
    refine value_ (w1 := ?_) (v := ?_) (by rfl) rfl ?_ ?_
    rotate_left 2
    · go_simp
      constructor
      · rfl
      · rfl
    refine hK.out _ _ ⟨(pw_cell_below (below_alloc (Below.drew (Below.refl _ _)) _) (show w6.cell? ⟨g, 0, none⟩ = _ by rw [blk_cell hB6]; rfl)), (pw_cell_below (below_alloc (Below.drew (Below.refl _ _)) _) (show w6.cell? ⟨nb, 0, none⟩ = _ by rw [blk_cell hN6]; rfl)), (pw_cell_below (below_alloc (Below.drew (Below.refl _ _)) _) (show w6.cell? ⟨nb, 1, none⟩ = _ by rw [blk_cell hN6]; rfl)), (pw_cell_below (below_alloc (Below.drew (Below.refl _ _)) _) (show w6.cell? ⟨nb, 2, none⟩ = _ by rw [blk_cell hN6]; rfl)), (pw_cell_below (below_alloc (Below.drew (Below.refl _ _)) _) (show w6.cell? ⟨nb, 3, none⟩ = _ by rw [blk_cell hN6]; rfl)), (pw_cell_below (below_alloc (Below.drew (Below.refl _ _)) _) (show w6.cell? ⟨nb, 4, none⟩ = _ by rw [blk_cell hN6]; rfl)), (pw_cell_below (below_alloc (Below.drew (Below.refl _ _)) _) (show w6.cell? ⟨nb, 5, none⟩ = _ by rw [blk_cell hN6]; rfl))⟩ (fun hHeld => ?_)
    clear hK K
    refine norm_ (a' := ?_) ?_ ?_
    rotate_left
    · show Act.put _ (some 46) _ = _
      simp only [Act.put, List.setIfInBounds_toArray, List.set_cons_zero, List.set_cons_succ, i64_w, i32_w]
      rfl
    refine one_ (i := 7) (N := some 47) #[true, true, true, true, true, true, true, true, false, false, false] rfl rfl (by kernel_rfl) (by decide) (fun K hK => ?_)
    have hM7 : (k37).M w6.drew B okA { n with f4 := topI b } [.int .u8 n.f0, .string n.f1, .slice A2 n.f2.length q2, .string n.f3, .int .i64 (topI b), .slice none 0 0] := k37_mkM w6.drew B okA { n with f4 := topI b } (Kd.R_drew hA6) (by rw [show ({ n with f4 := topI b } : NodeD).f5 = [] from HF5.out]; exact Kd.R_nil _ _ _ _ _)
    refine Kd.S_append_step k37 (w0 := w0) B rfl (.tmp 44) (.tmp 46) 30 37 (.agg #[(.int .u8 0), (.string ⟨#[]⟩), (.slice none 0 0), (.string ⟨#[]⟩), (.int .i64 0), (.slice none 0 0)]) 96 rfl Tryd.underlying30 info37 rfl (by decide) (by decide) (.slice (some ⟨gt, 0, none⟩) b.t.length qt) (b.t.set (topI b).toNat { rd_T37 b.t (topI b) with f5 := (rd_T37 b.t (topI b)).f5 ++ [(b.t.length : Int)] }) { n with f4 := topI b } [.int .u8 n.f0, .string n.f1, .slice A2 n.f2.length q2, .string n.f3, .int .i64 (topI b), .slice none 0 0] (fun k => some k ≠ (Value.slice (some ⟨go, oo, none⟩) b.op.length co).ownBlock) okA rfl rfl hM7 hAo (fun k hk => fun e => by simp [Value.ownBlock] at e; have : w6.heap.size ≤ k := hk; omega) (Kd.S_drew hS6) hb6.drew hBw6 (by rw [List.length_set]; omega) ?_
    intro v7 w8 ho8 hb8 hg8 hat8
    obtain ⟨A8, q8, rfl⟩ := Kd.S_slice ho8
    rw [List.length_append, List.length_set, List.length_singleton] at ho8
    rw [List.length_append, List.length_set, List.length_singleton]
    have hB8 := blk_grown (show w6.drew.heap[g]? = _ from hB6) hg8 (by simpa [Value.ownBlock] using hggt)
    have hN8 := blk_grown (show w6.drew.heap[nb]? = _ from hN6) hg8 (by simp [Value.ownBlock]; omega)
    have g8 := blk_frozen hB8 0
    have k8 : w8.cell? ⟨g, 0, none⟩ = some (.slice (some ⟨gt, 0, none⟩) b.t.length qt) := by rw [blk_cell hB8]; rfl
    refine hK.out _ _ ⟨k8, (by rw [blk_cell hN8]; rfl), (by rw [blk_cell hN8]; rfl), (by rw [blk_cell hN8]; rfl), (by rw [blk_cell hN8]; rfl), (by rw [blk_cell hN8]; rfl), (by rw [blk_cell hN8]; rfl)⟩ (fun hHeld => ?_)
    clear hK K
    refine norm_ (a' := ?_) ?_ ?_
    rotate_left
    · show Act.put _ (some 47) _ = _
      simp only [Act.put, List.setIfInBounds_toArray, List.set_cons_zero, List.set_cons_succ, i64_w, i32_w]
      rfl
    refine pure_ (i := 8) (N := some 48) (v := ?_) (a' := ?_) #[true, true, true, true, true, true, true, true, true, false, false] rfl rfl (by kernel_rfl) (fun _ _ _ h => h) (Or.inl ⟨by rfl, ?_⟩) ?_ ?_
    rotate_left
    · intro w'
      go_simp
      with_reducible rfl
    rotate_left
    · simp only [Act.put, List.setIfInBounds_toArray, List.set_cons_zero, List.set_cons_succ, i64_w, i32_w]
      rfl
    refine pure_ (i := 9) (N := some 49) (v := ?_) (a' := ?_) #[true, true, true, true, true, true, true, true, true, true, false] rfl rfl (by kernel_rfl) (fun _ _ _ h => h) (Or.inl ⟨by rfl, ?_⟩) ?_ ?_
    rotate_left
    · intro w'
      go_simp
      with_reducible rfl
    rotate_left
    · simp only [Act.put, List.setIfInBounds_toArray, List.set_cons_zero, List.set_cons_succ, i64_w, i32_w]
      rfl
    refine last_ (i := 10) (N := none) #[true, true, true, true, true, true, true, true, true, true, true] rfl rfl (by kernel_rfl) (by decide) (fun K hK => ?_)
    refine skip_ (w1 := ?_) (by rfl) rfl ?_ ?_
    rotate_left
    · go_simp
      rfl
    refine hK.out _ _ ?_
    clear hK K
    refine done_ (by kernel_rfl) ?_
    go_wp2
    have hop8 := Kd.Q_grown1 (Kd.Q_drew hop6) rfl hg8 (by simpa [Value.ownBlock] using hgtgo)
    go_ret
    exact ⟨rfl, ⟨_, _, blk_put hB8 0 _ rfl, Kd.S_set ho8 hB8 tE 0 _, Kd.Q_set hop8 hB8 oE 0 _⟩, hb8.setCell hB _⟩
end Go.Proofs.YtpfhgolamlnhiaaDoor
