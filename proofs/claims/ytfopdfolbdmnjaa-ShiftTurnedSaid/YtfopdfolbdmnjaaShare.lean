/- Share is the least ratio of a size to its times, in lowest terms. Conditions: one to twelve hours, needs of 0 to 50. -/
import Derived.Test.YtfopdfolbdmnjaaLst
namespace Go.Proofs.Ytfopdfolbdmnjaa.Pure
open Go.RowKit Go.Proofs.Ytfopdfolbdmnjaa.P Go.Proofs.YtfopdfolbdmnjaaW.PrintWords Go.Proofs.YtfopdfolbdmnjaaW.PrintLast Go.Proofs.YtfopdfolbdmnjaaW.PrintMore

theorem gcd_step (a b : Nat) : Nat.gcd a b = Nat.gcd b (a % b) := by
  rw [Nat.gcd_comm a b, Nat.gcd_rec b a, Nat.gcd_comm]
theorem divisor_f : ∀ (d b a : Nat), b ≤ d → a < 1000000000 → b < 1000000000 → Ev (fun k => ratio_divisor.f k a b) ((Nat.gcd a b : Nat) : Int) := by
  intro d
  induction d with
  | zero =>
    intro b a hb ha hb'
    obtain rfl : b = 0 := by omega
    rw [Nat.gcd_zero_right]
    refine Ev.step (fun k => by rw [ratio_divisor.f]) (ev_pos (c := ((0 : Nat) : Int) = 0) rfl ?_)
    rw [wrap_id (by omega)]
    have : mx (a : Int) (-(a : Int)) = a := by unfold mx; split <;> omega
    rw [this]; exact Ev.now _
  | succ d ih =>
    intro b a hb ha hb'
    by_cases h0 : b = 0
    · exact ih b a (by omega) ha hb'
    · refine Ev.step (fun k => by rw [ratio_divisor.f]) (ev_neg (by omega) ?_)
      have hlt := Nat.mod_lt a (Nat.pos_of_ne_zero h0)
      have h := ih (a % b) b (by omega) hb' (by omega)
      rw [gcd_step a b]
      refine Ev.bind ?_ (Ev.now _)
      rw [Int.tmod_eq_emod_of_nonneg (by omega)]
      exact h
/-- The ratio in lowest terms. -/
theorem Of_f (a b : Nat) (ha : a < 1000000000) (hb : b < 1000000000) (h0 : 0 < b) : Ev (fun k => ratio_Of.f k a b) (((a / Nat.gcd a b : Nat) : Int), ((b / Nat.gcd a b : Nat) : Int)) := by
  unfold ratio_Of.f
  have hg : 0 < Nat.gcd a b := Nat.gcd_pos_of_pos_right _ h0
  have h1 := Nat.div_le_self a (Nat.gcd a b)
  have h2 := Nat.div_le_self b (Nat.gcd a b)
  refine Ev.bind (divisor_f b b a (Nat.le_refl _) ha hb) (ev_neg (by omega) (ev_neg (by omega) ?_))
  rw [Int.tdiv_eq_ediv_of_nonneg (by omega), Int.tdiv_eq_ediv_of_nonneg (by omega), ← Int.natCast_ediv, ← Int.natCast_ediv]
  generalize a / Nat.gcd a b = p at h1 ⊢
  generalize b / Nat.gcd a b = q at h2 ⊢
  rw [wrap_id (by omega), wrap_id (by omega)]
  exact Ev.now _
/-- The least ratio, in lowest terms. -/
structure ShareIs (l : List Int) (t : Nat) (P Q : Nat) (A B g : Nat) : Prop where
  one : 1 ≤ B
  top : B ≤ l.length
  least : IsL l t B A
  min : ∀ (T L : Nat), 1 ≤ T → T ≤ l.length → IsL l t T L → A * T ≤ L * B
  a : A = P * g
  b : B = Q * g
  pos : 0 < g
  cop : Nat.Coprime P Q
theorem share_cop {P Q P' Q' : Nat} (c : Nat.Coprime P Q) (c' : Nat.Coprime P' Q') (h : P * Q' = P' * Q) (q : 0 < Q) : P = P' ∧ Q = Q' := by
  have d1 : Q ∣ Q' := c.symm.dvd_of_dvd_mul_left (h ▸ Nat.dvd_mul_left Q P')
  have d2 : Q' ∣ Q := c'.symm.dvd_of_dvd_mul_left (h ▸ Nat.dvd_mul_left Q' P)
  have e := Nat.dvd_antisymm d1 d2
  subst e
  exact ⟨Nat.eq_of_mul_eq_mul_right q h, rfl⟩
theorem cancel {P Q P' Q' g g' : Nat} (hg : 0 < g) (hg' : 0 < g') (h : (P * g) * (Q' * g') = (P' * g') * (Q * g)) : P * Q' = P' * Q := by
  apply Nat.eq_of_mul_eq_mul_right (Nat.mul_pos hg hg')
  calc P * Q' * (g * g') = (P * g) * (Q' * g') := by rw [Nat.mul_mul_mul_comm]
    _ = (P' * g') * (Q * g) := h
    _ = P' * Q * (g' * g) := by rw [Nat.mul_mul_mul_comm]
    _ = P' * Q * (g * g') := by rw [Nat.mul_comm g' g]
/-- Where the least sizes are the same, so is the share. -/
theorem ShareIs.uniq {l l' : List Int} {t t' P Q A B g P' Q' A' B' g' : Nat} (s : ShareIs l t P Q A B g) (s' : ShareIs l' t' P' Q' A' B' g') (hl : l.length = l'.length) (hL : ∀ T L : Nat, 1 ≤ T → T ≤ l.length → (IsL l t T L ↔ IsL l' t' T L)) : P = P' ∧ Q = Q' := by
  have h1 := s.min B' A' s'.one (by rw [hl]; exact s'.top) ((hL B' A' s'.one (by rw [hl]; exact s'.top)).2 s'.least)
  have h2 := s'.min B A s.one (by rw [← hl]; exact s.top) ((hL B A s.one s.top).1 s.least)
  have h : A * B' = A' * B := by omega
  rw [s.a, s'.b, s'.a, s.b] at h
  have hq : 0 < Q := by
    have := s.one; rw [s.b] at this
    exact Nat.pos_of_mul_pos_right this
  exact share_cop s.cop s'.cop (cancel s.pos s'.pos h) hq
theorem dvd_split {a g : Nat} (h : g ∣ a) : a = a / g * g := (Nat.div_mul_cancel h).symm
/-- The candidate that has been the least so far: its size A, its times B, g the divisor. -/
structure Best (l : List Int) (t x : Nat) (P Q A B g : Nat) : Prop where
  one : 1 ≤ B
  top : B < x
  least : IsL l t B A
  min : ∀ (T L : Nat), 1 ≤ T → T < x → IsL l t T L → A * T ≤ L * B
  a : A = P * g
  b : B = Q * g
  pos : 0 < g
  cop : Nat.Coprime P Q
  small : A ≤ 7200
theorem cop_div (a b : Nat) (h0 : 0 < b) : a = a / Nat.gcd a b * Nat.gcd a b ∧ b = b / Nat.gcd a b * Nat.gcd a b ∧ 0 < Nat.gcd a b ∧ Nat.Coprime (a / Nat.gcd a b) (b / Nat.gcd a b) := by
  have hg : 0 < Nat.gcd a b := Nat.gcd_pos_of_pos_right _ h0
  exact ⟨dvd_split (Nat.gcd_dvd_left a b), dvd_split (Nat.gcd_dvd_right a b), hg, Nat.coprime_div_gcd_div_gcd hg⟩
theorem less_iff {p q A B g p' q' a b g' : Nat} (h1 : A = p * g) (h2 : B = q * g) (hg : 0 < g) (h3 : a = p' * g') (h4 : b = q' * g') (hg' : 0 < g') : p' * q < p * q' ↔ a * B < A * b := by
  have e1 : a * B = p' * q * (g' * g) := by rw [h3, h2, Nat.mul_mul_mul_comm]
  have e2 : A * b = p * q' * (g' * g) := by rw [h1, h4, Nat.mul_mul_mul_comm, Nat.mul_comm g g']
  rw [e1, e2]
  exact (Nat.mul_lt_mul_right (Nat.mul_pos hg' hg)).symm
theorem prod_lt {p q A B g : Nat} (h1 : A = p * g) (h2 : B = q * g) (hg : 0 < g) (hA : A ≤ 7200) (hB : B ≤ 12) : p ≤ 7200 ∧ q ≤ 12 := by
  have := Nat.le_mul_of_pos_right p hg
  have := Nat.le_mul_of_pos_right q hg
  omega
theorem share_l0 {l : List Int} {t : Nat} (g : Good l t) : ∀ (d x P Q A B gg : Nat), x + d = l.length + 1 → Best l t x P Q A B gg →
    ∃ P' Q' A' B' g' : Nat, Ev (fun k => shift_Share.l0 k l x l t P Q) ((P' : Int), (Q' : Int), 0) ∧ Best l t (l.length + 1) P' Q' A' B' g' := by
  intro d
  have hl := g.len
  induction d with
  | zero =>
    intro x P Q A B gg hx hb
    obtain rfl : x = l.length + 1 := by omega
    exact ⟨P, Q, A, B, gg, Ev.step (fun k => by rw [shift_Share.l0]) (ev_neg (by omega) (Ev.now _)), hb⟩
  | succ d ih =>
    intro x P Q A B gg hx hb
    obtain ⟨L, c, eL, hL, hL2⟩ := least_f g (T := (x : Int)) (by omega) (by omega)
    have hL0 := hL.nonneg
    obtain ⟨N, rfl⟩ : ∃ N : Nat, L = N := ⟨L.toNat, by omega⟩
    obtain ⟨c1, c2, c3, c4⟩ := cop_div N x (by have := hb.one; have := hb.top; omega)
    have hO := Of_f N x (by omega) (by omega) (by have := hb.one; have := hb.top; omega)
    have sm := prod_lt hb.a hb.b hb.pos hb.small (by have := hb.top; omega)
    have sm' := prod_lt c1 c2 c3 (by omega) (by omega : x ≤ 12)
    have hlt := less_iff hb.a hb.b hb.pos c1 c2 c3
    generalize N / Nat.gcd N x = p' at *
    generalize x / Nat.gcd N x = q' at *
    have m1 : p' * Q ≤ 7200 * 12 := Nat.mul_le_mul sm'.1 sm.2
    have m2 : P * q' ≤ 7200 * 12 := Nat.mul_le_mul sm.1 sm'.2
    have hless : wrap64 ((p' : Int) * (Q : Int)) < wrap64 ((P : Int) * (q' : Int)) ↔ N * B < A * x := by
      rw [← Int.natCast_mul, ← Int.natCast_mul, wrap_id (by omega), wrap_id (by omega), ← hlt]
      omega
    by_cases hc : N * B < A * x
    · have hb' : Best l t (x + 1) p' q' N x (Nat.gcd N x) := by
        refine ⟨by have := hb.one; have := hb.top; omega, by omega, hL, ?_, c1, c2, c3, c4, by omega⟩
        intro T L h1 h2 h3
        by_cases e : T = x
        · subst e
          have := h3.uniq hL
          have : L = N := by omega
          rw [this]; exact Nat.le_refl _
        · have h4 := hb.min T L h1 (by omega) h3
          -- A T ≤ L B, N B < A x: so N T ≤ L x
          have h5 : N * B * T ≤ A * x * T := Nat.mul_le_mul_right T (Nat.le_of_lt hc)
          have h6 : A * T * x ≤ L * B * x := Nat.mul_le_mul_right x h4
          apply Nat.le_of_mul_le_mul_right (c := B) _ (by have := hb.one; omega)
          calc N * T * B = N * B * T := Nat.mul_right_comm ..
            _ ≤ A * x * T := h5
            _ = A * T * x := Nat.mul_right_comm ..
            _ ≤ L * B * x := h6
            _ = L * x * B := Nat.mul_right_comm ..
      obtain ⟨P', Q', A', B', g', e, h⟩ := ih (x + 1) p' q' N x _ (by omega) hb'
      refine ⟨P', Q', A', B', g', Ev.step (fun k => by rw [shift_Share.l0]) (ev_pos (by omega) (Ev.bind eL (Ev.bind hO (Ev.bind (a := true) ?_ (ev_pos rfl ?_))))), h⟩
      · unfold ratio_Less.f
        rw [decide_eq_true (hless.2 hc)]; exact Ev.now _
      · rw [wrap_id (n := (x : Int) + 1) (by omega)]; exact e
    · have hb' : Best l t (x + 1) P Q A B gg := by
        refine ⟨hb.one, by have := hb.top; omega, hb.least, ?_, hb.a, hb.b, hb.pos, hb.cop, hb.small⟩
        intro T L h1 h2 h3
        by_cases e : T = x
        · subst e
          have := h3.uniq hL
          have : L = N := by omega
          rw [this]; omega
        · exact hb.min T L h1 (by omega) h3
      obtain ⟨P', Q', A', B', g', e, h⟩ := ih (x + 1) P Q A B gg (by omega) hb'
      refine ⟨P', Q', A', B', g', Ev.step (fun k => by rw [shift_Share.l0]) (ev_pos (by omega) (Ev.bind eL (Ev.bind hO (Ev.bind (a := false) ?_ (ev_neg Bool.false_ne_true ?_))))), h⟩
      · unfold ratio_Less.f
        rw [decide_eq_false (fun h => hc (hless.1 h))]; exact Ev.now _
      · rw [wrap_id (n := (x : Int) + 1) (by omega)]; exact e
theorem Best.is {l : List Int} {t P Q A B g : Nat} (b : Best l t (l.length + 1) P Q A B g) : ShareIs l t P Q A B g :=
  ⟨b.one, by have := b.top; omega, b.least, fun T L h1 h2 h3 => b.min T L h1 (by omega) h3, b.a, b.b, b.pos, b.cop⟩
/-- The first candidate: shifts told once. -/
theorem best_one {l : List Int} {t : Nat} {N : Nat} (h : IsL l t 1 N) (h2 : N ≤ 7200) : Best l t 2 (N / Nat.gcd N 1) (1 / Nat.gcd N 1) N 1 (Nat.gcd N 1) := by
  obtain ⟨c1, c2, c3, c4⟩ := cop_div N 1 (by omega)
  refine ⟨by omega, by omega, h, ?_, c1, c2, c3, c4, h2⟩
  intro T L h1 h2 h3
  obtain rfl : T = 1 := by omega
  have := h3.uniq h
  have : L = N := by omega
  rw [this]; exact Nat.le_refl _
theorem Share_good {l : List Int} {t : Nat} (g : Good l t) : ∃ P Q A B gg : Nat, Ev (fun k => shift_Share.f k l t) ((P : Int), (Q : Int), 0) ∧ ShareIs l t P Q A B gg ∧ A ≤ 7200 := by
  obtain ⟨L, c, eL, hL, hL2⟩ := least_f g (T := 1) (by omega) (by omega)
  have hL0 := hL.nonneg
  have hp := g.pos
  obtain ⟨N, rfl⟩ : ∃ N : Nat, L = N := ⟨L.toNat, by omega⟩
  have hO := Of_f N 1 (by omega) (by omega) (by omega)
  obtain ⟨P, Q, A, B, gg, e, h⟩ := share_l0 g (l.length - 1) 2 _ _ _ _ _ (by omega) (best_one hL (by omega))
  refine ⟨P, Q, A, B, gg, ?_, h.is, h.small⟩
  unfold shift_Share.f
  exact Ev.bind (read_good g) (ev_pos rfl (Ev.bind eL (Ev.bind hO e)))
theorem Share_bad {l : List Int} {a : Int} (g : dayE l a ≠ 0) : Ev (fun k => shift_Share.f k l a) (0, 0, dayE l a) := by
  unfold shift_Share.f
  exact Ev.bind (read_bad g) (ev_neg g (Ev.now _))

end Go.Proofs.Ytfopdfolbdmnjaa.Pure
