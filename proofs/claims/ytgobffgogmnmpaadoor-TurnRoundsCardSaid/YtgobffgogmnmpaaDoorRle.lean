/- The document's least bound. Conditions: shares of the document. -/
import Derived.Test.YtgobffgogmnmpaaDoorPx13
import Derived.Test.YtgobffgogmnmpaaDoorRgo
namespace Go.Proofs.YtgobffgogmnmpaaDoor.Pure
open Go.RowKit Go.Proofs.YtgobffgogmnmpaaDoor.P Go.Proofs.YtgobffgogmnmpaaDoorW.PrintWords Go.Proofs.YtgobffgogmnmpaaDoorW.PrintLast Go.Proofs.YtgobffgogmnmpaaDoorW.PrintMore

theorem rleast_l0 {l : List Int} (g : Good l) {M : Int} (hM : IsLe l M) : ∀ (r m : Nat), (m : Int) + r = M → Ev (fun n => trishawref01_least.l0 n l (tot l) m) M := by
  intro r
  have hT := g.tot_pos
  have hT2 := g.tot_le
  have hp := g.pos
  have hn := g.len
  have hlt := hM.lt g
  have base : ∀ (m : Nat), (m : Int) ≤ M → ∃ z, (z = true ↔ Fe l m) ∧ ∀ v, Ev (fun n => if z = true then some (m : Int) else trishawref01_least.l0 n l (tot l) ((m + 1 : Nat) : Int)) v → Ev (fun n => trishawref01_least.l0 n l (tot l) m) v := by
    intro m hm
    have bn := red_bnd g (m := m) (by omega) (by omega)
    obtain ⟨ws, e, h⟩ := rwindows_f g (m := m) (by omega) (by omega)
    obtain ⟨z, e2, hz⟩ := goes_f g bn h (d := 0) (c0 := List.replicate l.length 0) (by omega) (St.zero g) (Cs.zero _)
    refine ⟨z, hz.trans ((fill_feas g bn h).trans (feas_red g m)), fun v hv => ?_⟩
    refine Ev.step (fun n => by rw [trishawref01_least.l0]) ?_
    refine Ev.bind e (ev_pos (by omega) (ev_pos (by rw [Int.toNat_natCast]; omega) ?_))
    rw [Int.toNat_natCast, wrap_id (n := (m : Int) + 1) (by omega), show (m : Int) + 1 = ((m + 1 : Nat) : Int) by omega]
    exact Ev.bind e2 hv
  induction r with
  | zero =>
    intro m hm
    obtain ⟨z, hz, go⟩ := base m (by omega)
    obtain rfl : z = true := hz.2 (by rw [show (m : Int) = M by omega]; exact hM.fe)
    rw [← show (m : Int) = M by omega]
    exact go _ (ev_pos rfl (Ev.now _))
  | succ r ih =>
    intro m hm
    obtain ⟨z, hz, go⟩ := base m (by omega)
    cases z with
    | true => exact absurd (hz.1 rfl) (hM.low _ (by omega))
    | false => exact go _ (ev_neg Bool.false_ne_true (ih (m + 1) (by omega)))
theorem rleast_f {l : List Int} (g : Good l) {m : Int} (hm : IsLe l m) : Ev (fun n => trishawref01_least.f n l (tot l)) m := by
  have := hm.nonneg g
  exact rleast_l0 g hm m.toNat 0 (by omega)
theorem RefLeast_good {l : List Int} (g : Good l) {m : Int} (hm : IsLe l m) : Ev (fun n => trishawref01_Least.f n l) ((red m (tot l)).1, (red m (tot l)).2, 0) := by
  have hT := g.tot_pos
  have hT2 := g.tot_le
  have hp := g.pos
  have h0 := hm.nonneg g
  have hlt := hm.lt g
  unfold trishawref01_Least.f
  exact Ev.bind (Shares_good g) (ev_pos rfl (Ev.bind (rleast_f g hm) (Ev.bind (Ratio_f h0 (by omega) (by omega) (by omega)) (Ev.now _))))
theorem RefLeast_bad {l : List Int} (g : shE l ≠ 0) : Ev (fun n => trishawref01_Least.f n l) (0, 0, shE l) := by
  unfold trishawref01_Least.f
  exact Ev.bind (Shares_bad g) (ev_neg g (Ev.now _))
end Go.Proofs.YtgobffgogmnmpaaDoor.Pure
