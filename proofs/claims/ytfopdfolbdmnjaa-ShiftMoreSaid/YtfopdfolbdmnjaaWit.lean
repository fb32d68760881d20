/- What With answers: the first plan of a size, if there is one. Conditions: one to twelve hours, needs of 0 to 50, sizes of 0 to 600. -/
import Derived.Test.YtfopdfolbdmnjaaPw
import Derived.Test.YtfopdfolbdmnjaaPln
namespace Go.Proofs.Ytfopdfolbdmnjaa.Pure
open Go.RowKit Go.Proofs.Ytfopdfolbdmnjaa.P Go.Proofs.YtfopdfolbdmnjaaW.PrintWords Go.Proofs.YtfopdfolbdmnjaaW.PrintLast Go.Proofs.YtfopdfolbdmnjaaW.PrintMore

theorem With_good {l : List Int} {t : Nat} (g : Good l t) {S : Int} (S0 : 0 ≤ S) (S1 : S ≤ 600) (hc : Can l t 1 S []) : ∃ p, Ev (fun k => shift_With.f k l t S) (p, 0) ∧ PlanIs l t S [] l.length p ∧ p.length = l.length ∧ (∀ x, x ∈ p → 0 ≤ x ∧ x ≤ 7200) ∧ Can l t 1 S p := by
  obtain ⟨p, e, h⟩ := first_f g S0 (by omega) hc
  refine ⟨p, ?_, h⟩
  have hp := g.pos
  have hl := h.2.1
  unfold shift_With.f
  refine Ev.bind (read_good g) (ev_pos rfl (ev_neg (by omega) ?_))
  rw [decide_eq_false (show ¬ S > 600 by omega)]
  refine Ev.step (fun k => by rw [shift_With.j0]) ?_
  exact ev_neg Bool.false_ne_true (Ev.bind e (ev_neg (by omega) (Ev.now _)))
theorem With_none {l : List Int} {t : Nat} (g : Good l t) {S : Int} (S0 : 0 ≤ S) (S1 : S ≤ 600) (hc : ¬ Can l t 1 S []) : Ev (fun k => shift_With.f k l t S) ([], 10) := by
  have e := first_none g S0 (by omega) hc
  unfold shift_With.f
  refine Ev.bind (read_good g) (ev_pos rfl (ev_neg (by omega) ?_))
  rw [decide_eq_false (show ¬ S > 600 by omega)]
  refine Ev.step (fun k => by rw [shift_With.j0]) ?_
  exact ev_neg Bool.false_ne_true (Ev.bind e (ev_pos rfl (Ev.now _)))
theorem With_out {l : List Int} {t : Nat} (g : Good l t) {S : Int} (h : S < 0 ∨ S > 600) : Ev (fun k => shift_With.f k l t S) ([], 2) := by
  have out : Ev (fun k => shift_With.j0 k S true l t) ([], 2) := by
    refine Ev.step (fun k => by rw [shift_With.j0]) ?_
    exact ev_pos rfl (Ev.now _)
  unfold shift_With.f
  refine Ev.bind (read_good g) (ev_pos rfl ?_)
  by_cases c : S < 0
  · exact ev_pos c out
  · refine ev_neg c ?_
    rw [decide_eq_true (show S > 600 by omega)]
    exact out
theorem With_bad {l : List Int} {a S : Int} (g : dayE l a ≠ 0) : Ev (fun k => shift_With.f k l a S) ([], dayE l a) := by
  unfold shift_With.f
  exact Ev.bind (read_bad g) (ev_neg g (Ev.now _))
end Go.Proofs.Ytfopdfolbdmnjaa.Pure
