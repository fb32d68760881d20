/- Ratios in lowest terms, as the program and the document make them. Conditions: numbers below 2 to the 60. -/
import Derived.Test.YtgobffgogmnmpaaDoorPx3
import Derived.Test.YtgobffgogmnmpaaDoorPx10
import Derived.Test.YtgobffgogmnmpaaDoorBase
namespace Go.Proofs.YtgobffgogmnmpaaDoor.Pure
open Go.RowKit Go.Proofs.YtgobffgogmnmpaaDoor.P Go.Proofs.YtgobffgogmnmpaaDoorW.PrintWords Go.Proofs.YtgobffgogmnmpaaDoorW.PrintLast Go.Proofs.YtgobffgogmnmpaaDoorW.PrintMore

theorem gcd_step (a b : Int) : Int.gcd b (a.tmod b) = Int.gcd a b := by
  show Nat.gcd b.natAbs (a.tmod b).natAbs = Nat.gcd a.natAbs b.natAbs
  rw [Int.natAbs_tmod, Nat.gcd_comm a.natAbs, Nat.gcd_rec b.natAbs a.natAbs, Nat.gcd_comm]
theorem tmod_small (a b : Int) (hb : b ≠ 0) : (a.tmod b).natAbs < b.natAbs := by
  rw [Int.natAbs_tmod]; exact Nat.mod_lt _ (by omega)
theorem mx_abs (a : Int) : mx a (-a) = (a.natAbs : Int) := by unfold mx; split <;> omega
theorem gcd_zero (a : Int) : (Int.gcd a 0 : Int) = (a.natAbs : Int) := by
  show ((Nat.gcd a.natAbs 0 : Nat) : Int) = _; rw [Nat.gcd_zero_right]
theorem gcd_l0 : ∀ (n : Nat) (a b : Int), b.natAbs ≤ n → -1152921504606846976 ≤ a → a ≤ 1152921504606846976 → -1152921504606846976 ≤ b → b ≤ 1152921504606846976 →
    Ev (fun k => trishawref01_Gcd.l0 k a b) (Int.gcd a b : Int) := by
  intro n
  induction n with
  | zero =>
    intro a b hn a1 a2 b1 b2
    obtain rfl : b = 0 := by omega
    refine Ev.step (fun k => by rw [trishawref01_Gcd.l0]) (ev_pos rfl ?_)
    rw [wrap_id (by omega), mx_abs, gcd_zero]
    exact Ev.now _
  | succ n ih =>
    intro a b hn a1 a2 b1 b2
    by_cases hb : b = 0
    · subst hb
      refine Ev.step (fun k => by rw [trishawref01_Gcd.l0]) (ev_pos rfl ?_)
      rw [wrap_id (by omega), mx_abs, gcd_zero]
      exact Ev.now _
    · refine Ev.step (fun k => by rw [trishawref01_Gcd.l0]) (ev_neg hb ?_)
      have := tmod_small a b hb
      have h := ih b (a.tmod b) (by omega) b1 b2 (by omega) (by omega)
      rw [gcd_step] at h
      exact h
theorem Gcd_f {a b : Int} (a1 : -1152921504606846976 ≤ a) (a2 : a ≤ 1152921504606846976) (b1 : -1152921504606846976 ≤ b) (b2 : b ≤ 1152921504606846976) : Ev (fun k => trishawref01_Gcd.f k a b) (Int.gcd a b : Int) := by
  unfold trishawref01_Gcd.f
  exact gcd_l0 b.natAbs a b (Nat.le_refl _) a1 a2 b1 b2
end Go.Proofs.YtgobffgogmnmpaaDoor.Pure
