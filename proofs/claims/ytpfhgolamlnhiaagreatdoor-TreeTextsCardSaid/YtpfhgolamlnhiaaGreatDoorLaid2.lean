/- What the rows' lists give: the two tables of package charref. -/
import Derived.Test.YtpfhgolamlnhiaaGreatDoorLaid
import Derived.Test.YtpfhgolamlnhiaaGreatDoorNames
import Derived.ChangeArms
import Derived.Deep.Strs
set_option linter.unusedVariables false
namespace Go.Proofs.YtpfhgolamlnhiaaGreatDoor.Laid
open Go.Lib Go.ChangeShapes Go.WideShapes Go.ChangeAt Go.RowKit

theorem others_data : (Rows.laid_selvedge_charref_others : DataW Unit) = tabData .i32 othT := by kernel_rfl
theorem names_data : (Rows.laid_selvedge_charref_names : DataW Unit) = .agg (nm.map fun n => .agg [.lit (.string n.s.data.toList), .lit (.int .i32 n.r), .lit (.bool n.al)]) := by kernel_rfl
theorem cells_name : Tryz.prog.cellsOf 168 = 3 := by kernel_rfl
theorem cells_str : Tryz.prog.cellsOf 9 = 1 := by kernel_rfl
theorem cells_rune : Tryz.prog.cellsOf 21 = 1 := by kernel_rfl
theorem cells_bool : Tryz.prog.cellsOf 4 = 1 := by kernel_rfl
theorem cells_oth : Tryz.prog.cellsOf 183 = 32 := by kernel_rfl
theorem g_names : Tryz.prog.globalNamed "selvedge/charref.names" = some 3 := by kernel_rfl
theorem g_oth : Tryz.prog.globalNamed "selvedge/charref.others" = some 4 := by kernel_rfl
theorem ty_names : (Tryz.prog.globals[3]?).map (·.type) = some 169 := by kernel_rfl
theorem ty_oth : (Tryz.prog.globals[4]?).map (·.type) = some 183 := by kernel_rfl
theorem nm_len : nm.length = 59 := by decide +kernel
theorem name_cells {w : World} (r : VarReads Tryz.prog w "selvedge/charref.names" Rows.laid_selvedge_charref_names) (i : Nat) (hi : i < 59) :
    w.cell? ⟨3, 3 * i, none⟩ = some (.string (nmAt i).s) ∧ w.cell? ⟨3, 3 * i + 1, none⟩ = some (.int .i32 (nmAt i).r) ∧ w.cell? ⟨3, 3 * i + 2, none⟩ = some (.bool (nmAt i).al) := by
  rw [names_data] at r
  obtain ⟨g, t, cs, fuel, p, hg, hty, hvar, hd⟩ := r
  obtain rfl := Option.some.inj (g_names.symm.trans hg)
  obtain rfl := Option.some.inj (ty_names.symm.trans hty)
  obtain ⟨fuel', d, q, hdi, he⟩ := array_elem Tryz.underlying169 hd i hi
  have hn : nm[i]? = some (nmAt i) := by
    unfold nmAt
    rw [List.getElem?_eq_getElem (by rw [nm_len]; exact hi), List.getD_eq_getElem?_getD, List.getElem?_eq_getElem (by rw [nm_len]; exact hi)]
    rfl
  rw [List.getElem?_map, hn] at hdi
  obtain rfl := Option.some.inj hdi
  rw [cells_name] at he
  obtain ⟨y0, y1, y2, n, hx, hl, t0, t1, t2⟩ := Deep.trod_struct3 Tryz.underlying168 he
  dsimp only at t0 t1 t2
  rw [cells_str] at t0
  rw [cells_rune] at t1
  rw [cells_bool] at t2
  obtain ⟨s0, c0, e0, -⟩ := DataW.trod_string Tryz.underlying9 t0
  obtain ⟨s1, c1, e1, -⟩ := DataW.trod_int Tryz.underlying21 t1
  obtain ⟨s2, c2, e2⟩ := DataW.trod_bool Tryz.underlying4 t2
  subst e0 e1 e2
  simp only [Prod.mk.injEq, DataW.agg.injEq, List.cons.injEq, DataW.lit.injEq, Lit.string.injEq, Lit.int.injEq, Lit.bool.injEq, true_and, and_true] at hx
  obtain ⟨⟨x0, x1, x2⟩, -⟩ := hx
  have z0 := congrArg (·[0]?) c0
  have z1 := congrArg (·[0]?) c1
  have z2 := congrArg (·[0]?) c2
  simp only [List.getElem?_take, List.getElem?_drop] at z0 z1 z2
  have hs : s0 = (nmAt i).s := ByteArray.ext (Array.toList_inj.1 x0.symm)
  refine ⟨?_, ?_, ?_⟩
  · rw [World.var?_cell hg hvar (3 * i), ← Array.getElem?_toList, ← hs]
    simpa [Nat.mul_comm] using z0
  · rw [World.var?_cell hg hvar (3 * i + 1), ← Array.getElem?_toList, x1]
    simpa [Nat.mul_comm] using z1
  · rw [World.var?_cell hg hvar (3 * i + 2), ← Array.getElem?_toList, x2]
    simpa [Nat.mul_comm] using z2
theorem maxLen_some {w : World} (h : w.ShapedOpen Tryz.prog) : ∃ m : Int, w.cell? ⟨2, 0, none⟩ = some (.int .i64 m) :=
  Go.Proofs.cell_of_shapedOpen_int (zero := #[.int .i64 0]) (t := 3) h (of_decide_eq_true (by kernel_rfl)) (by kernel_rfl) rfl (by kernel_rfl) (by kernel_rfl) Tryz.underlying3
theorem g2 {w : World} {l : List (String × DataW Unit)} (hs : w.ShapedOpen Tryz.prog) (h : laidMet Tryz.prog l w) (h1 : ("selvedge/charref.names", Rows.laid_selvedge_charref_names) ∈ l) (h2 : ("selvedge/charref.others", Rows.laid_selvedge_charref_others) ∈ l) : G2 w := by
  have r1 := laidMet.reads h h1
  have r2 := laidMet.reads h h2
  refine ⟨fun i hi => (name_cells r1 i hi).1, fun i hi => (name_cells r1 i hi).2.1, fun i hi => (name_cells r1 i hi).2.2, fun i hi => ?_, maxLen_some hs⟩
  rw [others_data] at r2
  obtain ⟨g, t, cs, fuel, p, hg, hty, hvar, hd⟩ := r2
  obtain rfl := Option.some.inj (g_oth.symm.trans hg)
  obtain rfl := Option.some.inj (ty_oth.symm.trans hty)
  have hcs := cells_of_tab Tryz.underlying183 Tryz.underlying21 cells_rune cells_oth hd
  have := World.var?_cell hg hvar i
  rw [this, ← Array.getElem?_toList, hcs, List.getElem?_map]
  unfold othAt
  have hl : i < othT.length := hi
  rw [List.getElem?_eq_getElem hl, List.getD_eq_getElem?_getD, List.getElem?_eq_getElem hl]
  rfl
end Go.Proofs.YtpfhgolamlnhiaaGreatDoor.Laid
