/- The statement TurnMerges, of what the walked functions compute: both merge alike. Conditions: none but the bounds of the law. -/
import Derived.Test.YtgobffgogmnmpaaDoorPx33
import Derived.Test.YtgobffgogmnmpaaDoorMrg
namespace Go.Proofs.YtgobffgogmnmpaaDoor.Pure
open Go.RowKit Go.Proofs.YtgobffgogmnmpaaDoor.P Go.Proofs.YtgobffgogmnmpaaDoorW.PrintWords Go.Proofs.YtgobffgogmnmpaaDoorW.PrintLast Go.Proofs.YtgobffgogmnmpaaDoorW.PrintMore
theorem TurnMerges : trishawlaw01_TurnMerges.Pure := by
  intro l a b hl hl8 _ _ _
  refine Ev.rounds (g := fun k => trishawlaw01_TurnMerges.f k l a b) ?_
  unfold trishawlaw01_TurnMerges.f
  rw [few_f]
  refine Ev.bind (Ev.now _) ?_
  by_cases hf : decide (([] : List Int).length ≤ 30 ∧ l.length ≤ 500) = true
  · have h500 := (of_decide_eq_true hf).2
    refine ev_pos hf (Ev.bind (Ev.now _) (ev_pos (by simp only [List.length_nil]; omega) (Ev.bind (Ev.now _) ?_)))
    rw [List.nil_append]
    refine Ev.bind (Merged_f l a b) (Ev.bind (RefMerged_f l a b) (Ev.bind (same_f _ ?_) (ev_pos rfl (ev_pos rfl (Ev.bind (same_f l (by omega)) (ev_pos rfl alive_ev'))))))
    split
    · show (mdays l a b).length < _
      unfold mdays; rw [List.length_map]; omega
    · exact (by decide : 0 < 4611686018427387904)
  · exact ev_neg hf alive_ev'
end Go.Proofs.YtgobffgogmnmpaaDoor.Pure
