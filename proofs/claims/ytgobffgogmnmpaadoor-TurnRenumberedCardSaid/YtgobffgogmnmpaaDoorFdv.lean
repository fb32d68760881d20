/- The deviation of Fair. Conditions: shares of the document, at most 400 days. -/
import Derived.Test.YtgobffgogmnmpaaDoorPx16
import Derived.Test.YtgobffgogmnmpaaDoorFpr
import Derived.Test.YtgobffgogmnmpaaDoorDev
namespace Go.Proofs.YtgobffgogmnmpaaDoor.Pure
open Go.RowKit Go.Proofs.YtgobffgogmnmpaaDoor.P Go.Proofs.YtgobffgogmnmpaaDoorW.PrintWords Go.Proofs.YtgobffgogmnmpaaDoorW.PrintLast Go.Proofs.YtgobffgogmnmpaaDoorW.PrintMore

theorem dev_le {l days : List Int} {D : Int} (h0 : 0 ≤ D) : dev l days ≤ D ↔ ∀ τ, τ ≤ days.length → ∀ j, j < l.length → -D ≤ lag (sh l) (tot l) (ee days) τ j ∧ lag (sh l) (tot l) (ee days) τ j ≤ D := wst_le h0
theorem dev_lst {l : List Int} {e : Nat → Nat} {n : Nat} {D : Int} (h0 : 0 ≤ D) : dev l (lst e n) ≤ D ↔ ∀ τ, τ ≤ n → ∀ j, j < l.length → -D ≤ lag (sh l) (tot l) e τ j ∧ lag (sh l) (tot l) e τ j ≤ D := by
  rw [dev_le h0, lst_len]
  constructor
  · intro h τ hτ j hj
    have := h τ hτ j hj
    rwa [lag_congr (e' := e) (fun σ hσ => lst_ee e (by omega))] at this
  · intro h τ hτ j hj
    rw [lag_congr (e' := e) (fun σ hσ => lst_ee e (by omega))]
    exact h τ hτ j hj
theorem fair_dev {l : List Int} (g : Good l) (h2 : 2 ≤ l.length) (n : Nat) : dd l * dev l (lst (called (pickF l)) n) ≤ (dd l - 1) * tot l := by
  have hd : 2 ≤ dd l := by unfold dd; omega
  have hT := g.tot_pos
  have h0 : 0 ≤ (dd l - 1) * tot l := Int.mul_nonneg (by omega) (by omega)
  have h1 : dev l (lst (called (pickF l)) n) ≤ (dd l - 1) * tot l / dd l := by
    refine (dev_lst (Int.ediv_nonneg h0 (by omega))).2 fun τ hτ j hj => ?_
    have hb := fair_bound g h2 τ j hj
    have e2 : lag (sh l) (tot l) (called (pickF l)) τ j ≤ (dd l - 1) * tot l / dd l := (Int.le_ediv_iff_mul_le (by omega)).2 (by have := hb.2; rw [Int.mul_comm (dd l)] at this; exact this)
    have e3 : -lag (sh l) (tot l) (called (pickF l)) τ j ≤ (dd l - 1) * tot l / dd l := (Int.le_ediv_iff_mul_le (by omega)).2 (by
      have h3 := (fair_bound g h2 τ j hj).1
      rw [Int.neg_mul, Int.mul_comm (lag (sh l) (tot l) (called (pickF l)) τ j)]; omega)
    omega
  have := (Int.le_ediv_iff_mul_le (show 0 < dd l by omega)).1 h1
  rw [Int.mul_comm]; exact this
theorem fair_dev1 {l : List Int} (h1 : l.length = 1) (n : Nat) : dev l (lst (called (pickF l)) n) = 0 := by
  have := (dev_lst (l := l) (e := called (pickF l)) (n := n) (D := 0) (Int.le_refl _)).2 fun τ _ j hj => by rw [fair_one h1 τ j hj]; omega
  have := dev_nonneg l (lst (called (pickF l)) n)
  omega
theorem fair_devq {l : List Int} (g : Good l) (n : Nat) : dev l (lst (called (pickF l)) n) < tot l := by
  have hT := g.tot_pos
  have hp := g.pos
  have := (dev_lst (l := l) (e := called (pickF l)) (n := n) (D := tot l - 1) (by omega)).2 fun τ _ j hj => fair_quota g τ j hj
  omega
theorem fair_sd {l : List Int} (g : Good l) {n : Nat} (hn : n ≤ 400) : sdE l (lst (called (pickF l)) n) = 0 := sd_ok.2 ⟨g, by rw [lst_len]; exact hn, lst_days fun t _ => fair_lt g t⟩
theorem small_red {D T : Int} (h0 : 0 ≤ D) (h1 : D < 1000000) (hT : 0 < T) (hT2 : T < 1000000) : trishawlaw01_small.f (red D T).1 (red D T).2 = some true := by
  have a := red_nonneg h0 hT
  have b := red_pos (a := D) hT
  have c := red_le h0 hT
  unfold trishawlaw01_small.f
  rw [if_pos (by omega), if_pos (by omega), if_pos (by omega), decide_eq_true (by omega)]
theorem atMost_f {a b c d : Int} (h1 : -4611686018427387904 ≤ a * d ∧ a * d ≤ 4611686018427387904) (h2 : -4611686018427387904 ≤ c * b ∧ c * b ≤ 4611686018427387904) : trishawlaw01_atMost.f a b c d = some (decide (a * d ≤ c * b)) := by
  unfold trishawlaw01_atMost.f
  rw [wrap_id (by omega), wrap_id (by omega)]
/-- A ratio in lowest terms held against p / q. -/
theorem red_atMost {D T p q : Int} (hT : 0 < T) : (red D T).1 * q ≤ p * (red D T).2 ↔ D * q ≤ p * T := by
  obtain ⟨g, hg, h1, h2⟩ := red_is (a := D) hT
  have e1 : D * q = (red D T).1 * q * g := by rw [Int.mul_right_comm, ← h1]
  have e2 : p * T = p * (red D T).2 * g := by rw [Int.mul_assoc, ← h2]
  rw [e1, e2]
  exact ⟨fun h => Int.mul_le_mul_of_nonneg_right h (by omega), fun h => Int.le_of_mul_le_mul_right h hg⟩
end Go.Proofs.YtgobffgogmnmpaaDoor.Pure
