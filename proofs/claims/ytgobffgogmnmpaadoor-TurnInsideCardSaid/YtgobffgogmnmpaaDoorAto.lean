/- The deviation held against bounds, and ratios held against each other. Conditions: as each says. -/
import Derived.Test.YtgobffgogmnmpaaDoorPx16
import Derived.Test.YtgobffgogmnmpaaDoorDev
namespace Go.Proofs.YtgobffgogmnmpaaDoor.Pure
open Go.RowKit Go.Proofs.YtgobffgogmnmpaaDoor.P Go.Proofs.YtgobffgogmnmpaaDoorW.PrintWords Go.Proofs.YtgobffgogmnmpaaDoorW.PrintLast Go.Proofs.YtgobffgogmnmpaaDoorW.PrintMore
theorem dev_le {l days : List Int} {D : Int} (h0 : 0 ≤ D) : dev l days ≤ D ↔ ∀ τ, τ ≤ days.length → ∀ j, j < l.length → -D ≤ lag (sh l) (tot l) (ee days) τ j ∧ lag (sh l) (tot l) (ee days) τ j ≤ D := wst_le h0
theorem small_red {D T : Int} (h0 : 0 ≤ D) (h1 : D < 1000000) (hT : 0 < T) (hT2 : T < 1000000) : trishawlaw01_small.f (red D T).1 (red D T).2 = some true := by
  have a := red_nonneg h0 hT
  have b := red_pos (a := D) hT
  have c := red_le h0 hT
  unfold trishawlaw01_small.f
  rw [if_pos (by omega), if_pos (by omega), if_pos (by omega), decide_eq_true (by omega)]
theorem atMost_f {a b c d : Int} (h1 : -4611686018427387904 ≤ a * d ∧ a * d ≤ 4611686018427387904) (h2 : -4611686018427387904 ≤ c * b ∧ c * b ≤ 4611686018427387904) : trishawlaw01_atMost.f a b c d = some (decide (a * d ≤ c * b)) := by
  unfold trishawlaw01_atMost.f
  rw [wrap_id (by omega), wrap_id (by omega)]
/-- A ratio in lowest terms held against p / q. -/
theorem red_atMost {D T p q : Int} (hT : 0 < T) : (red D T).1 * q ≤ p * (red D T).2 ↔ D * q ≤ p * T := by
  obtain ⟨g, hg, h1, h2⟩ := red_is (a := D) hT
  have e1 : D * q = (red D T).1 * q * g := by rw [Int.mul_right_comm, ← h1]
  have e2 : p * T = p * (red D T).2 * g := by rw [Int.mul_assoc, ← h2]
  rw [e1, e2]
  exact ⟨fun h => Int.mul_le_mul_of_nonneg_right h (by omega), fun h => Int.le_of_mul_le_mul_right h hg⟩
end Go.Proofs.YtgobffgogmnmpaaDoor.Pure
