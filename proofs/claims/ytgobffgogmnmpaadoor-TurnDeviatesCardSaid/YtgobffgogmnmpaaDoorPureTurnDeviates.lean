/- The statement TurnDeviates, of what the walked functions compute: both tell the same deviation and the same judgement. Conditions: none but the bounds of the law. -/
import Derived.Test.YtgobffgogmnmpaaDoorPx20
import Derived.Test.YtgobffgogmnmpaaDoorRefDev
namespace Go.Proofs.YtgobffgogmnmpaaDoor.Pure
open Go.RowKit Go.Proofs.YtgobffgogmnmpaaDoor.P Go.Proofs.YtgobffgogmnmpaaDoorW.PrintWords Go.Proofs.YtgobffgogmnmpaaDoorW.PrintLast Go.Proofs.YtgobffgogmnmpaaDoorW.PrintMore
theorem ne_self {a : Int} : (a != a) = false := by simp
theorem TurnDeviates : trishawlaw01_TurnDeviates.Pure := by
  intro l days hl _ _ hd _ _
  refine Ev.rounds (g := fun k => trishawlaw01_TurnDeviates.f k l days) ?_
  unfold trishawlaw01_TurnDeviates.f
  rw [few_f]
  refine Ev.bind (Ev.now _) ?_
  by_cases hf : decide (l.length ≤ 30 ∧ days.length ≤ 500) = true
  · obtain ⟨h30, h500⟩ := of_decide_eq_true hf
    refine ev_pos hf (Ev.bind (Ev.now _) (ev_pos (by simp only [List.length_nil]; omega) (Ev.bind (Ev.now _) (Ev.bind (Ev.now _) (ev_pos (by simp only [List.length_nil]; omega) (Ev.bind (Ev.now _) ?_))))))
    rw [List.nil_append, List.nil_append]
    refine Ev.bind (Deviation_f l days) (Ev.bind (RefDeviation_f l days) (ev_neg (by simp) ?_))
    rw [ne_self]
    refine Ev.step (fun k => by rw [trishawlaw01_TurnDeviates.j0]) ?_
    refine ev_neg Bool.false_ne_true (Ev.bind (Quota_f l days) (Ev.bind (RefQuota_f l days) (ev_pos (by simp) (ev_pos rfl (Ev.bind (same_f l (by omega)) (ev_pos rfl (Ev.bind (same_f days (by omega)) (ev_pos rfl alive_ev'))))))))
  · exact ev_neg hf alive_ev'
end Go.Proofs.YtgobffgogmnmpaaDoor.Pure
