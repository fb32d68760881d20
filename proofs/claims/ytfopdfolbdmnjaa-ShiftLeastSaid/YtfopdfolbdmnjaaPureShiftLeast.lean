/- The statement ShiftLeast, of what the walked functions compute: the document's Least and Share are those of the shift package. Conditions: none but the bounds of the law. -/
import Derived.Test.YtfopdfolbdmnjaaPx13
import Derived.Test.YtfopdfolbdmnjaaRefLst
import Derived.Test.YtfopdfolbdmnjaaShare
namespace Go.Proofs.Ytfopdfolbdmnjaa.Pure
open Go.RowKit Go.Proofs.Ytfopdfolbdmnjaa.P Go.Proofs.YtfopdfolbdmnjaaW.PrintWords Go.Proofs.YtfopdfolbdmnjaaW.PrintLast Go.Proofs.YtfopdfolbdmnjaaW.PrintMore

theorem Gcd_l0 : ∀ (d b a : Nat), b ≤ d → a < 1000000000 → b < 1000000000 → Ev (fun k => trishawref01_Gcd.l0 k a b) ((Nat.gcd a b : Nat) : Int) := by
  intro d
  induction d with
  | zero =>
    intro b a hb ha hb'
    obtain rfl : b = 0 := by omega
    rw [Nat.gcd_zero_right]
    refine Ev.step (fun k => by rw [trishawref01_Gcd.l0]) (ev_pos (c := ((0 : Nat) : Int) = 0) rfl ?_)
    rw [wrap_id (by omega)]
    have : mx (a : Int) (-(a : Int)) = a := by unfold mx; split <;> omega
    rw [this]; exact Ev.now _
  | succ d ih =>
    intro b a hb ha hb'
    by_cases h0 : b = 0
    · exact ih b a (by omega) ha hb'
    · refine Ev.step (fun k => by rw [trishawref01_Gcd.l0]) (ev_neg (by omega) ?_)
      have hlt := Nat.mod_lt a (Nat.pos_of_ne_zero h0)
      have h := ih (a % b) b (by omega) hb' (by omega)
      rw [gcd_step a b, Int.tmod_eq_emod_of_nonneg (by omega)]
      exact h
theorem Ratio_f (a b : Nat) (ha : a < 1000000000) (hb : b < 1000000000) (h0 : 0 < b) : Ev (fun k => trishawref01_Ratio.f k a b) (((a / Nat.gcd a b : Nat) : Int), ((b / Nat.gcd a b : Nat) : Int)) := by
  unfold trishawref01_Ratio.f trishawref01_Gcd.f
  have hg : 0 < Nat.gcd a b := Nat.gcd_pos_of_pos_right _ h0
  have h1 := Nat.div_le_self a (Nat.gcd a b)
  have h2 := Nat.div_le_self b (Nat.gcd a b)
  have h3 : mx (a : Int) (wrap64 (-(a : Int))) = a := by rw [wrap_id (by omega)]; unfold mx; split <;> omega
  rw [h3]
  refine Ev.bind (Gcd_l0 b b a (Nat.le_refl _) ha hb) (ev_neg (by omega) ?_)
  rw [Int.tdiv_eq_ediv_of_nonneg (by omega), Int.tdiv_eq_ediv_of_nonneg (by omega), ← Int.natCast_ediv, ← Int.natCast_ediv]
  generalize a / Nat.gcd a b = p at h1 ⊢
  generalize b / Nat.gcd a b = q at h2 ⊢
  rw [wrap_id (by omega), wrap_id (by omega)]
  exact Ev.now _
theorem refshare_l0 {l : List Int} {t : Nat} (g : Good l t) : ∀ (d x A B : Nat), x + d = l.length + 1 → 1 ≤ B → B < x → IsL l t B A → (∀ (T L : Nat), 1 ≤ T → T < x → IsL l t T L → A * T ≤ L * B) → A ≤ 7200 →
    ∃ P Q A' B' g' : Nat, Ev (fun k => trishawref07_Share.l0 k l t A B x) ((P : Int), (Q : Int), 0) ∧ ShareIs l t P Q A' B' g' := by
  intro d
  have hl := g.len
  induction d with
  | zero =>
    intro x A B hx h1 h2 h3 h4 h5
    obtain rfl : x = l.length + 1 := by omega
    obtain ⟨c1, c2, c3, c4⟩ := cop_div A B (by omega)
    refine ⟨A / Nat.gcd A B, B / Nat.gcd A B, A, B, Nat.gcd A B, Ev.step (fun k => by rw [trishawref07_Share.l0]) (ev_neg (by omega) (Ev.bind (Ratio_f A B (by omega) (by omega) (by omega)) (Ev.now _))), h1, by omega, h3, fun T L k1 k2 k3 => h4 T L k1 (by omega) k3, c1, c2, c3, c4⟩
  | succ d ih =>
    intro x A B hx h1 h2 h3 h4 h5
    obtain ⟨L, c, _, hL, hL2⟩ := least_f g (T := (x : Int)) (by omega) (by omega)
    obtain ⟨L', eL, hL'⟩ := refleast_f g (T := (x : Int)) (by omega) (by omega)
    obtain rfl := hL'.uniq hL
    have hL0 := hL.nonneg
    obtain ⟨N, rfl⟩ : ∃ N : Nat, L' = N := ⟨L'.toNat, by omega⟩
    have m1 : N * B ≤ 7200 * 12 := Nat.mul_le_mul (by omega) (by omega)
    have m2 : A * x ≤ 7200 * 12 := Nat.mul_le_mul h5 (by omega)
    have hless : wrap64 ((N : Int) * (B : Int)) < wrap64 ((A : Int) * (x : Int)) ↔ N * B < A * x := by
      rw [← Int.natCast_mul, ← Int.natCast_mul, wrap_id (by omega), wrap_id (by omega)]
      omega
    by_cases hc : N * B < A * x
    · have hmin : ∀ (T L : Nat), 1 ≤ T → T < x + 1 → IsL l t T L → N * T ≤ L * x := by
        intro T L k1 k2 k3
        by_cases e : T = x
        · subst e
          have := k3.uniq hL
          have : L = N := by omega
          rw [this]; exact Nat.le_refl _
        · have h6 := h4 T L k1 (by omega) k3
          have h7 : N * B * T ≤ A * x * T := Nat.mul_le_mul_right T (Nat.le_of_lt hc)
          have h8 : A * T * x ≤ L * B * x := Nat.mul_le_mul_right x h6
          apply Nat.le_of_mul_le_mul_right (c := B) _ (by omega)
          calc N * T * B = N * B * T := Nat.mul_right_comm ..
            _ ≤ A * x * T := h7
            _ = A * T * x := Nat.mul_right_comm ..
            _ ≤ L * B * x := h8
            _ = L * x * B := Nat.mul_right_comm ..
      obtain ⟨P, Q, A', B', g', e, h⟩ := ih (x + 1) N x (by omega) (by omega) (by omega) hL hmin (by omega)
      refine ⟨P, Q, A', B', g', Ev.step (fun k => by rw [trishawref07_Share.l0]) (ev_pos (by omega) (Ev.bind eL (ev_pos (hless.2 hc) ?_))), h⟩
      rw [wrap_id (n := (x : Int) + 1) (by omega)]; exact e
    · have hmin : ∀ (T L : Nat), 1 ≤ T → T < x + 1 → IsL l t T L → A * T ≤ L * B := by
        intro T L k1 k2 k3
        by_cases e : T = x
        · subst e
          have := k3.uniq hL
          have : L = N := by omega
          rw [this]; omega
        · exact h4 T L k1 (by omega) k3
      obtain ⟨P, Q, A', B', g', e, h⟩ := ih (x + 1) A B (by omega) h1 (by omega) h3 hmin h5
      refine ⟨P, Q, A', B', g', Ev.step (fun k => by rw [trishawref07_Share.l0]) (ev_pos (by omega) (Ev.bind eL (ev_neg (fun h => hc (hless.1 h)) ?_))), h⟩
      rw [wrap_id (n := (x : Int) + 1) (by omega)]; exact e
theorem RefShare_good {l : List Int} {t : Nat} (g : Good l t) : ∃ P Q A B gg : Nat, Ev (fun k => trishawref07_Share.f k l t) ((P : Int), (Q : Int), 0) ∧ ShareIs l t P Q A B gg := by
  obtain ⟨L, c, _, hL, hL2⟩ := least_f g (T := 1) (by omega) (by omega)
  obtain ⟨L', eL, hL'⟩ := refleast_f g (T := 1) (by omega) (by omega)
  obtain rfl := hL'.uniq hL
  have hL0 := hL.nonneg
  have hp := g.pos
  obtain ⟨N, rfl⟩ : ∃ N : Nat, L' = N := ⟨L'.toNat, by omega⟩
  obtain ⟨P, Q, A, B, gg, e, h⟩ := refshare_l0 g (l.length - 1) 2 N 1 (by omega) (by omega) (by omega) hL (fun T L h1 h2 h3 => by
    obtain rfl : T = 1 := by omega
    have := h3.uniq hL
    have : L = N := by omega
    rw [this]; exact Nat.le_refl _) (by omega)
  refine ⟨P, Q, A, B, gg, ?_, h⟩
  unfold trishawref07_Share.f
  exact Ev.bind (day_f l t) (ev_pos (day_good.2 g) (Ev.bind eL e))
theorem RefShare_bad {l : List Int} {a : Int} (g : dayE l a ≠ 0) : Ev (fun k => trishawref07_Share.f k l a) (0, 0, dayE l a) := by
  unfold trishawref07_Share.f
  exact Ev.bind (day_f l a) (ev_neg g (Ev.now _))
theorem ne_false {a : Int} : ((a != a) = true) → False := by simp
theorem ShiftLeast : trishawlaw07_ShiftLeast.Pure := by
  intro l a hl _ _ _
  refine Ev.rounds (g := fun k => trishawlaw07_ShiftLeast.f k l a) ?_
  unfold trishawlaw07_ShiftLeast.f
  rw [few_f]
  by_cases hf : decide (l.length ≤ 40 ∧ ([] : List Int).length ≤ 100) = true
  · refine ev_pos hf ?_
    by_cases hg : dayE l a = 0
    · have g := day_good.1 hg
      obtain ⟨t, rfl⟩ := g.nat
      obtain ⟨L, e1, h1, _⟩ := Least_good g
      obtain ⟨L', e2, h2⟩ := RefLeast_good g
      obtain rfl := h1.uniq h2
      obtain ⟨P, Q, A, B, gg, e3, s3, _⟩ := Share_good g
      obtain ⟨P', Q', A', B', gg', e4, s4⟩ := RefShare_good g
      obtain ⟨rfl, rfl⟩ := s3.uniq s4 rfl (fun _ _ _ _ => Iff.rfl)
      refine Ev.bind e1 (Ev.bind e2 (ev_pos rfl ?_))
      refine Ev.step (fun k => by rw [trishawlaw07_ShiftLeast.j0]) (ev_neg ne_false (Ev.bind e3 (Ev.bind e4 (ev_pos ?_ (ev_pos rfl alive_ev')))))
      simp
    · refine Ev.bind (Least_bad hg) (Ev.bind (RefLeast_bad hg) (ev_pos rfl ?_))
      refine Ev.step (fun k => by rw [trishawlaw07_ShiftLeast.j0]) (ev_neg ne_false (Ev.bind (Share_bad hg) (Ev.bind (RefShare_bad hg) (ev_pos ?_ (ev_pos rfl alive_ev')))))
      simp
  · exact ev_neg hf alive_ev'
end Go.Proofs.Ytfopdfolbdmnjaa.Pure
