/- What the door lays: the package variable none of the turn package holds the window without days when a call begins. Conditions: the row's own. -/
import Derived.Test.YtgobffgogmnmpaaDoorRows
import Derived.ProofKit
import Derived.LaidMore
import Derived.OpenShut
import Derived.Stop.Joined
namespace Go.Proofs.YtgobffgogmnmpaaDoor
open Go.ChangeShapes Go.WideShapes Go.ChangeAt Go.WideMaps Go.WideElems Go.RowKit
theorem gNone : Tryd.prog.globalNamed "trishaw/turn.none" = some 0 := by kernel_rfl
theorem tNone : (Tryd.prog.globals[0]?).map (·.type) = some 51 := by kernel_rfl
theorem door_met (os : Os) (args : Array Value) : laidMetH Tryd.prog [("trishaw/turn.none", Rows.laid_trishaw_turn_none)] ((World.doorLaid Tryd.prog 400 os).forCall (fun _ _ => 0) ⟨#[], args, []⟩).memory :=
  laidMetH_of_parts3 (fuel := 8) (laidMet_of_run' 8 (by kernel_rfl) (by kernel_rfl)) (by kernel_rfl) (by kernel_rfl)
theorem of_laid {W : World} (h : laidMetH Tryd.prog [("trishaw/turn.none", Rows.laid_trishaw_turn_none)] W) : W.cell? ⟨0, 0, none⟩ = some (.int .i64 0) ∧ W.cell? ⟨0, 1, none⟩ = some (.int .i64 (-1)) := by
  rw [MakeChecks.laidMetH_plain _ _ _ (by kernel_rfl)] at h
  obtain ⟨ps, ⟨g0, t0, cs0, f0, p0, q0, hg0, ht0, hv0, hd0, _, _⟩, _, _⟩ := h
  obtain rfl := Option.some.inj (gNone.symm.trans hg0)
  obtain rfl := Option.some.inj (tNone.symm.trans ht0)
  obtain ⟨y0, y1, n, hx, hl, h0, h1⟩ := trod_struct2 Tryd.underlying51 hd0
  have c51 : Tryd.prog.cellsOf 51 = 2 := by kernel_rfl
  have c3 : Tryd.prog.cellsOf 3 = 1 := by kernel_rfl
  rw [c51] at hl
  obtain ⟨a, e1, e2, _⟩ := DataW.trod_int Tryd.underlying3 h0
  obtain ⟨b, e3, e4, _⟩ := DataW.trod_int Tryd.underlying3 h1
  rw [e2, e4] at hx
  simp only [Prod.mk.injEq, DataW.agg.injEq, Rows.laid_trishaw_turn_none] at hx
  have k0 := World.var?_cell hg0 hv0 0
  have k1 := World.var?_cell hg0 hv0 1
  obtain ⟨l0⟩ := cs0
  obtain ⟨c, d, rfl⟩ : ∃ c d, l0 = [c, d] := by
    cases l0 with
    | nil => exact absurd hl (by simp)
    | cons c l =>
      cases l with
      | nil => exact absurd hl (by simp)
      | cons d l =>
        cases l with
        | nil => exact ⟨c, d, rfl⟩
        | cons x l => exact absurd hl (by simp)
  simp only [c3] at e1 e3
  simp at e1 e3 hx k0 k1
  obtain ⟨⟨rfl, rfl⟩, _⟩ := hx
  subst e1
  subst e3
  exact ⟨k0, k1⟩
end Go.Proofs.YtgobffgogmnmpaaDoor
