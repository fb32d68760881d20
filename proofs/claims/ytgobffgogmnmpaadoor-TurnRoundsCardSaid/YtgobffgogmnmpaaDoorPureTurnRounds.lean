/- The statement TurnRounds, of what the walked functions compute: both tell the same least bound and make the same round. Conditions: none but the bounds of the law. -/
import Derived.Test.YtgobffgogmnmpaaDoorPx15
import Derived.Test.YtgobffgogmnmpaaDoorRro
namespace Go.Proofs.YtgobffgogmnmpaaDoor.Pure
open Go.RowKit Go.Proofs.YtgobffgogmnmpaaDoor.P Go.Proofs.YtgobffgogmnmpaaDoorW.PrintWords Go.Proofs.YtgobffgogmnmpaaDoorW.PrintLast Go.Proofs.YtgobffgogmnmpaaDoorW.PrintMore
theorem ne_self {a : Int} : (a != a) = false := by simp
theorem TurnRounds : trishawlaw01_TurnRounds.Pure := by
  intro l hl _ _
  refine Ev.rounds (g := fun k => trishawlaw01_TurnRounds.f k l) ?_
  unfold trishawlaw01_TurnRounds.f
  rw [few_f]
  refine Ev.bind (Ev.now _) ?_
  by_cases hf : decide (l.length ≤ 30 ∧ ([] : List Int).length ≤ 500) = true
  rotate_left
  · exact ev_neg hf alive_ev'
  refine ev_pos hf ?_
  by_cases hs : shE l = 0
  · have g := sh_good.1 hs
    obtain ⟨m, hm⟩ := isLe_ex g
    obtain ⟨σ, e1, r1⟩ := tround_f g hm
    obtain ⟨τ, e2, r2⟩ := rround_f g hm
    obtain rfl := r1.uniq r2
    have hlen : (il σ).length < 4611686018427387904 := by rw [il_len]; have := r1.len; have := g.tot_le; omega
    refine Ev.bind (Least_good g hm) (Ev.bind (RefLeast_good g hm) (ev_neg (by simp) ?_))
    rw [ne_self]
    refine Ev.step (fun k => by rw [trishawlaw01_TurnRounds.j0]) ?_
    exact ev_neg Bool.false_ne_true (Ev.bind e1 (Ev.bind e2 (Ev.bind (same_f _ hlen) (ev_pos rfl (ev_pos rfl alive_ev')))))
  · refine Ev.bind (Least_bad hs) (Ev.bind (RefLeast_bad hs) (ev_neg (by simp) ?_))
    rw [ne_self]
    refine Ev.step (fun k => by rw [trishawlaw01_TurnRounds.j0]) ?_
    exact ev_neg Bool.false_ne_true (Ev.bind (tround_bad hs) (Ev.bind (rround_bad hs) (Ev.bind (same_f _ (by simp only [List.length_nil]; omega)) (ev_pos rfl (ev_pos rfl alive_ev')))))
end Go.Proofs.YtgobffgogmnmpaaDoor.Pure
