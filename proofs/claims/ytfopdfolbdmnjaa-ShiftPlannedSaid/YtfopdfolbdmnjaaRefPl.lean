/- What the document asks of a plan, and how many it finds in an hour. Conditions: one to twelve hours, needs of 0 to 50. -/
import Derived.Test.YtfopdfolbdmnjaaCov
namespace Go.Proofs.Ytfopdfolbdmnjaa.Pure
open Go.RowKit Go.Proofs.Ytfopdfolbdmnjaa.P Go.Proofs.YtfopdfolbdmnjaaW.PrintWords Go.Proofs.YtfopdfolbdmnjaaW.PrintLast Go.Proofs.YtfopdfolbdmnjaaW.PrintMore

theorem refisplan_l0 (n : Nat) (p : List Int) (hl : p.length < 1000) : ∀ (d i : Nat), i + d = p.length → (∀ j, j < i → 0 ≤ p.getD j 0 ∧ p.getD j 0 ≤ 600) →
    ∃ b, Ev (fun k => trishawref07_IsPlan.l0 k n p i) b ∧ (b = true ↔ p.length = n ∧ ∀ x, x ∈ p → 0 ≤ x ∧ x ≤ 600) := by
  intro d
  induction d with
  | zero =>
    intro i hi hj
    refine ⟨_, Ev.step (fun k => by rw [trishawref07_IsPlan.l0]) (ev_neg (by omega) (Ev.now ((p.length : Int) == n))), ?_⟩
    rw [beq_iff_eq]
    constructor
    · intro h
      refine ⟨by omega, fun x hx => ?_⟩
      obtain ⟨j, hjl, rfl⟩ := mem_getD hx
      exact hj j (by omega)
    · intro ⟨h, _⟩; omega
  | succ d ih =>
    intro i hi hj
    have hlt : i < p.length := by omega
    by_cases h1 : p.getD i 0 < 0
    · refine ⟨false, Ev.step (fun k => by rw [trishawref07_IsPlan.l0]) ?_, ⟨(fun h => by cases h), fun ⟨_, h⟩ => ?_⟩⟩
      · rw [rd_nat]; exact ev_pos (by omega) (ev_pos (by omega) (ev_pos h1 (Ev.now _)))
      · have := h _ (getD_mem hlt); omega
    · by_cases h2 : p.getD i 0 > 600
      · refine ⟨false, Ev.step (fun k => by rw [trishawref07_IsPlan.l0]) ?_, ⟨(fun h => by cases h), fun ⟨_, h⟩ => ?_⟩⟩
        · rw [rd_nat]; exact ev_pos (by omega) (ev_pos (by omega) (ev_neg h1 (ev_pos h2 (Ev.now _))))
        · have := h _ (getD_mem hlt); omega
      · obtain ⟨b, e, hb⟩ := ih (i + 1) (by omega) (fun j hj' => by
          by_cases c : j = i
          · rw [c]; omega
          · exact hj j (by omega))
        refine ⟨b, Ev.step (fun k => by rw [trishawref07_IsPlan.l0]) ?_, hb⟩
        rw [rd_nat, wrap_id (n := (i : Int) + 1) (by omega)]
        exact ev_pos (by omega) (ev_pos (by omega) (ev_neg h1 (ev_neg h2 e)))
theorem refisplan_f (l p : List Int) (hl : p.length < 1000) : ∃ b, Ev (fun k => trishawref07_IsPlan.f k l.length p) b ∧ (b = true ↔ IsPl l p) := by
  obtain ⟨b, e, h⟩ := refisplan_l0 l.length p hl p.length 0 (by omega) (fun j hj => absurd hj (Nat.not_lt_zero _))
  refine ⟨b, ?_, h⟩
  unfold trishawref07_IsPlan.f
  exact e
end Go.Proofs.Ytfopdfolbdmnjaa.Pure
