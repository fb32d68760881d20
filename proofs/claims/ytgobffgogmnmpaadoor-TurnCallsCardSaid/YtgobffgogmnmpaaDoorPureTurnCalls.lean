/- The statement TurnCalls, of what the walked functions compute: both call alike. Conditions: none but the bounds of the law. -/
import Derived.Test.YtgobffgogmnmpaaDoorPx25
import Derived.Test.YtgobffgogmnmpaaDoorRefCal
namespace Go.Proofs.YtgobffgogmnmpaaDoor.Pure
open Go.RowKit Go.Proofs.YtgobffgogmnmpaaDoor.P Go.Proofs.YtgobffgogmnmpaaDoorW.PrintWords Go.Proofs.YtgobffgogmnmpaaDoorW.PrintLast Go.Proofs.YtgobffgogmnmpaaDoorW.PrintMore
theorem ne_self {a : Int} : (a != a) = false := by simp
theorem calls_len (pick : (Nat → Nat) → Nat → Nat) (l : List Int) (many : Int) : (if maE l many = 0 then (lst (called pick) many.toNat, (0 : Int)) else ([], maE l many)).1.length < 4611686018427387904 := by
  split
  · rename_i h
    obtain ⟨_, h0, h1⟩ := ma_ok.1 h
    show (lst (called pick) many.toNat).length < _
    rw [lst_len]; omega
  · exact (by decide : 0 < 4611686018427387904)
theorem TurnCalls : trishawlaw01_TurnCalls.Pure := by
  intro l many _ _ _ _
  refine Ev.rounds (g := fun k => trishawlaw01_TurnCalls.f k l many) ?_
  unfold trishawlaw01_TurnCalls.f
  rw [few_f]
  refine Ev.bind (Ev.now _) ?_
  by_cases hf : decide (l.length ≤ 30 ∧ ([] : List Int).length ≤ 500) = true
  · refine ev_pos hf (Ev.bind (Greedy_f l many) (Ev.bind (RefGreedy_f l many) (Ev.bind (same_f _ (calls_len _ l many)) (ev_pos rfl ?_))))
    rw [ne_self]
    refine Ev.step (fun k => by rw [trishawlaw01_TurnCalls.j0]) ?_
    exact ev_neg Bool.false_ne_true (Ev.bind (Fair_f l many) (Ev.bind (RefFair_f l many) (Ev.bind (same_f _ (calls_len _ l many)) (ev_pos rfl (ev_pos rfl alive_ev')))))
  · exact ev_neg hf alive_ev'
end Go.Proofs.YtgobffgogmnmpaaDoor.Pure
