/- The errors of a list of days, in the document. Conditions: none. -/
import Derived.Test.YtgobffgogmnmpaaDoorPx16
import Derived.Test.YtgobffgogmnmpaaDoorCnt
namespace Go.Proofs.YtgobffgogmnmpaaDoor.Pure
open Go.RowKit Go.Proofs.YtgobffgogmnmpaaDoor.P Go.Proofs.YtgobffgogmnmpaaDoorW.PrintWords Go.Proofs.YtgobffgogmnmpaaDoorW.PrintLast Go.Proofs.YtgobffgogmnmpaaDoorW.PrintMore

/-- The errors of a list of days. -/
theorem Days_l0 (days : List Int) (n : Int) (hd : days.length ≤ 400) : ∀ (d i : Nat), i + d = days.length → (∀ j, j < i → 0 ≤ days.getD j 0 ∧ days.getD j 0 < n) →
    Ev (fun k => trishawref01_Days.l0 k days n i) (daE days n) := by
  intro d
  induction d with
  | zero =>
    intro i hi hj
    have : daE days n = 0 := by
      unfold daE
      rw [if_neg (by omega), if_neg]
      intro ⟨x, hx, h⟩
      obtain ⟨j, hj', rfl⟩ := mem_getD hx
      have := hj j (by omega); omega
    rw [this]
    exact Ev.step (fun k => by rw [trishawref01_Days.l0]) (ev_neg (by omega) (Ev.now _))
  | succ d ih =>
    intro i hi hj
    have bad : (days.getD i 0 < 0 ∨ days.getD i 0 ≥ n) → daE days n = 2 := by
      intro h
      unfold daE
      rw [if_neg (by omega), if_pos ⟨_, getD_mem (show i < days.length by omega), h⟩]
    refine Ev.step (fun k => by rw [trishawref01_Days.l0]) (ev_pos (by omega) (ev_pos (by omega) ?_))
    rw [rd_nat, wrap_id (n := (i : Int) + 1) (by omega)]
    by_cases h1 : days.getD i 0 < 0
    · rw [bad (.inl h1)]; exact ev_pos h1 (Ev.now _)
    · refine ev_neg h1 ?_
      by_cases h2 : days.getD i 0 ≥ n
      · rw [bad (.inr h2)]; exact ev_pos h2 (Ev.now _)
      · exact ev_neg h2 (ih (i + 1) (by omega) (fun j hj' => by
          by_cases c : j = i
          · subst c; omega
          · exact hj j (by omega)))
theorem Days_f (days : List Int) (n : Int) : Ev (fun k => trishawref01_Days.f k days n) (daE days n) := by
  unfold trishawref01_Days.f
  by_cases h : days.length > 400
  · rw [show daE days n = 3 from if_pos h]; exact ev_pos (by omega) (Ev.now _)
  · exact ev_neg (by omega) (Days_l0 days n (by omega) days.length 0 (by omega) (fun j hj => by omega))
end Go.Proofs.YtgobffgogmnmpaaDoor.Pure
