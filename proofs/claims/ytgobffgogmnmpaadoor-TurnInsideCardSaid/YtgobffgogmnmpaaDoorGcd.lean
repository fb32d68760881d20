/- Ratios in lowest terms, as the program and the document make them. Conditions: numbers below 2 to the 60. -/
import Derived.Test.YtgobffgogmnmpaaDoorPx3
import Derived.Test.YtgobffgogmnmpaaDoorPx10
import Derived.Test.YtgobffgogmnmpaaDoorBase
namespace Go.Proofs.YtgobffgogmnmpaaDoor.Pure
open Go.RowKit Go.Proofs.YtgobffgogmnmpaaDoor.P Go.Proofs.YtgobffgogmnmpaaDoorW.PrintWords Go.Proofs.YtgobffgogmnmpaaDoorW.PrintLast Go.Proofs.YtgobffgogmnmpaaDoorW.PrintMore

theorem gcd_step (a b : Int) : Int.gcd b (a.tmod b) = Int.gcd a b := by
  show Nat.gcd b.natAbs (a.tmod b).natAbs = Nat.gcd a.natAbs b.natAbs
  rw [Int.natAbs_tmod, Nat.gcd_comm a.natAbs, Nat.gcd_rec b.natAbs a.natAbs, Nat.gcd_comm]
theorem tmod_small (a b : Int) (hb : b ≠ 0) : (a.tmod b).natAbs < b.natAbs := by
  rw [Int.natAbs_tmod]; exact Nat.mod_lt _ (by omega)
theorem mx_abs (a : Int) : mx a (-a) = (a.natAbs : Int) := by unfold mx; split <;> omega
theorem gcd_zero (a : Int) : (Int.gcd a 0 : Int) = (a.natAbs : Int) := by
  show ((Nat.gcd a.natAbs 0 : Nat) : Int) = _; rw [Nat.gcd_zero_right]
theorem divisor_f : ∀ (n : Nat) (a b : Int), b.natAbs ≤ n → -1152921504606846976 ≤ a → a ≤ 1152921504606846976 → -1152921504606846976 ≤ b → b ≤ 1152921504606846976 →
    Ev (fun k => ratio_divisor.f k a b) (Int.gcd a b : Int) := by
  intro n
  induction n with
  | zero =>
    intro a b hn a1 a2 b1 b2
    obtain rfl : b = 0 := by omega
    refine Ev.step (fun k => by rw [ratio_divisor.f]) (ev_pos rfl ?_)
    rw [wrap_id (by omega), mx_abs, gcd_zero]
    exact Ev.now _
  | succ n ih =>
    intro a b hn a1 a2 b1 b2
    by_cases hb : b = 0
    · subst hb
      refine Ev.step (fun k => by rw [ratio_divisor.f]) (ev_pos rfl ?_)
      rw [wrap_id (by omega), mx_abs, gcd_zero]
      exact Ev.now _
    · refine Ev.step (fun k => by rw [ratio_divisor.f]) (ev_neg hb ?_)
      have := tmod_small a b hb
      have h := ih b (a.tmod b) (by omega) b1 b2 (by omega) (by omega)
      rw [gcd_step] at h
      exact Ev.bind h (Ev.now _)
theorem gcd_l0 : ∀ (n : Nat) (a b : Int), b.natAbs ≤ n → -1152921504606846976 ≤ a → a ≤ 1152921504606846976 → -1152921504606846976 ≤ b → b ≤ 1152921504606846976 →
    Ev (fun k => trishawref01_Gcd.l0 k a b) (Int.gcd a b : Int) := by
  intro n
  induction n with
  | zero =>
    intro a b hn a1 a2 b1 b2
    obtain rfl : b = 0 := by omega
    refine Ev.step (fun k => by rw [trishawref01_Gcd.l0]) (ev_pos rfl ?_)
    rw [wrap_id (by omega), mx_abs, gcd_zero]
    exact Ev.now _
  | succ n ih =>
    intro a b hn a1 a2 b1 b2
    by_cases hb : b = 0
    · subst hb
      refine Ev.step (fun k => by rw [trishawref01_Gcd.l0]) (ev_pos rfl ?_)
      rw [wrap_id (by omega), mx_abs, gcd_zero]
      exact Ev.now _
    · refine Ev.step (fun k => by rw [trishawref01_Gcd.l0]) (ev_neg hb ?_)
      have := tmod_small a b hb
      have h := ih b (a.tmod b) (by omega) b1 b2 (by omega) (by omega)
      rw [gcd_step] at h
      exact h
theorem Gcd_f {a b : Int} (a1 : -1152921504606846976 ≤ a) (a2 : a ≤ 1152921504606846976) (b1 : -1152921504606846976 ≤ b) (b2 : b ≤ 1152921504606846976) : Ev (fun k => trishawref01_Gcd.f k a b) (Int.gcd a b : Int) := by
  unfold trishawref01_Gcd.f
  exact gcd_l0 b.natAbs a b (Nat.le_refl _) a1 a2 b1 b2
/-- A ratio in lowest terms. -/
def red (a b : Int) : Int × Int := (a / (Int.gcd a b : Int), b / (Int.gcd a b : Int))
theorem gcd_pos {a b : Int} (hb : 0 < b) : 0 < (Int.gcd a b : Int) := by
  have : 0 < Int.gcd a b := Int.gcd_pos_of_ne_zero_right _ (by omega)
  omega
theorem div_small {a g : Int} (ha : 0 ≤ a) (hg : 0 < g) : 0 ≤ a / g ∧ a / g ≤ a := ⟨Int.ediv_nonneg ha (by omega), Int.ediv_le_self _ ha⟩
theorem Of_f {a b : Int} (ha : 0 ≤ a) (ha2 : a ≤ 1152921504606846976) (hb : 0 < b) (hb2 : b ≤ 1152921504606846976) : Ev (fun k => ratio_Of.f k a b) (red a b) := by
  unfold ratio_Of.f
  have hg := gcd_pos (a := a) hb
  have h1 := div_small ha hg
  have h2 := div_small (Int.le_of_lt hb) hg
  refine Ev.bind (divisor_f b.natAbs a b (Nat.le_refl _) (by omega) (by omega) (by omega) (by omega)) (ev_neg (by omega) (ev_neg (by omega) ?_))
  rw [Int.tdiv_eq_ediv_of_nonneg ha, Int.tdiv_eq_ediv_of_nonneg (Int.le_of_lt hb), wrap_id (by omega), wrap_id (by omega)]
  exact Ev.now _
theorem Ratio_f {a b : Int} (ha : 0 ≤ a) (ha2 : a ≤ 1152921504606846976) (hb : 0 < b) (hb2 : b ≤ 1152921504606846976) : Ev (fun k => trishawref01_Ratio.f k a b) (red a b) := by
  unfold trishawref01_Ratio.f
  have hg := gcd_pos (a := a) hb
  have h1 := div_small ha hg
  have h2 := div_small (Int.le_of_lt hb) hg
  rw [wrap_id (n := -a) (by omega), mx_abs, show (a.natAbs : Int) = a by omega]
  refine Ev.bind (Gcd_f (by omega) ha2 (by omega) hb2) (ev_neg (by omega) ?_)
  rw [Int.tdiv_eq_ediv_of_nonneg ha, Int.tdiv_eq_ediv_of_nonneg (Int.le_of_lt hb), wrap_id (by omega), wrap_id (by omega)]
  exact Ev.now _
/-- What a ratio in lowest terms is: some number takes both to the number and its divisor. -/
theorem red_is {a b : Int} (hb : 0 < b) : ∃ g : Int, 0 < g ∧ a = (red a b).1 * g ∧ b = (red a b).2 * g :=
  ⟨Int.gcd a b, gcd_pos hb, (Int.ediv_mul_cancel (Int.gcd_dvd_left _ _)).symm, (Int.ediv_mul_cancel (Int.gcd_dvd_right _ _)).symm⟩
theorem red_pos {a b : Int} (hb : 0 < b) : 0 < (red a b).2 := by
  obtain ⟨g, hg, _, h⟩ := red_is (a := a) hb
  by_cases c : 0 < (red a b).2
  · exact c
  · have := Int.mul_nonneg (a := -(red a b).2) (b := g) (by omega) (by omega)
    rw [Int.neg_mul] at this
    omega
theorem red_nonneg {a b : Int} (ha : 0 ≤ a) (hb : 0 < b) : 0 ≤ (red a b).1 := Int.ediv_nonneg ha (Int.le_of_lt (gcd_pos hb))
theorem red_cross {a b : Int} (hb : 0 < b) : (red a b).1 * b = a * (red a b).2 := by
  obtain ⟨g, hg, h1, h2⟩ := red_is (a := a) hb
  calc (red a b).1 * b = (red a b).1 * ((red a b).2 * g) := by rw [← h2]
    _ = (red a b).1 * g * (red a b).2 := by rw [Int.mul_right_comm, Int.mul_assoc]
    _ = a * (red a b).2 := by rw [← h1]
theorem red_le {a b : Int} (ha : 0 ≤ a) (hb : 0 < b) : (red a b).1 ≤ a ∧ (red a b).2 ≤ b := ⟨(div_small ha (gcd_pos hb)).2, (div_small (Int.le_of_lt hb) (gcd_pos hb)).2⟩
theorem red_inj {a a' b : Int} (hb : 0 < b) (h : red a b = red a' b) : a = a' := by
  have h1 := red_cross (a := a) hb
  have h2 := red_cross (a := a') hb
  rw [h] at h1
  have := h1.symm.trans h2
  exact Int.eq_of_mul_eq_mul_right (by have := red_pos (a := a') hb; omega) this
theorem red_gcd {a b : Int} (hb : 0 < b) : Int.gcd (red a b).1 (red a b).2 = 1 := by
  show Int.gcd (a / (Int.gcd a b : Int)) (b / (Int.gcd a b : Int)) = 1
  exact Int.gcd_ediv_gcd_ediv_gcd (Int.gcd_pos_of_ne_zero_right _ (by omega))
end Go.Proofs.YtgobffgogmnmpaaDoor.Pure
