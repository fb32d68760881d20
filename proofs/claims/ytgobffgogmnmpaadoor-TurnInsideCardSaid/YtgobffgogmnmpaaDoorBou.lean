/- What Windows and Feasible take as a bound. Conditions: whole numbers of the machine. -/
import Derived.Test.YtgobffgogmnmpaaDoorPx3
import Derived.Test.YtgobffgogmnmpaaDoorPx28
import Derived.Test.YtgobffgogmnmpaaDoorRnd
import Derived.Test.YtgobffgogmnmpaaDoorGcd
namespace Go.Proofs.YtgobffgogmnmpaaDoor.Pure
open Go.RowKit Go.Proofs.YtgobffgogmnmpaaDoor.P Go.Proofs.YtgobffgogmnmpaaDoorW.PrintWords Go.Proofs.YtgobffgogmnmpaaDoorW.PrintLast Go.Proofs.YtgobffgogmnmpaaDoorW.PrintMore

theorem divisor_any : ∀ (n : Nat) (a b : Int), b.natAbs ≤ n → -9223372036854775807 ≤ b → b ≤ 9223372036854775807 → (b = 0 → -9223372036854775807 ≤ a ∧ a ≤ 9223372036854775807) →
    Ev (fun k => ratio_divisor.f k a b) (Int.gcd a b : Int) := by
  intro n
  induction n with
  | zero =>
    intro a b hn b1 b2 ha
    obtain rfl : b = 0 := by omega
    have := ha rfl
    refine Ev.step (fun k => by rw [ratio_divisor.f]) (ev_pos rfl ?_)
    rw [wrap_id (by omega), mx_abs, gcd_zero]
    exact Ev.now _
  | succ n ih =>
    intro a b hn b1 b2 ha
    by_cases hb : b = 0
    · subst hb
      have := ha rfl
      refine Ev.step (fun k => by rw [ratio_divisor.f]) (ev_pos rfl ?_)
      rw [wrap_id (by omega), mx_abs, gcd_zero]
      exact Ev.now _
    · refine Ev.step (fun k => by rw [ratio_divisor.f]) (ev_neg hb ?_)
      have := tmod_small a b hb
      have h := ih b (a.tmod b) (by omega) (by omega) (by omega) (fun _ => ⟨b1, b2⟩)
      rw [gcd_step] at h
      exact Ev.bind h (Ev.now _)
/-- A bound as the document wants it. -/
def IsB (p q : Int) : Prop := Bnd p q ∧ (Int.gcd p q : Int) = 1
instance (p q : Int) : Decidable (Bnd p q) := decidable_of_iff (1 ≤ q ∧ q ≤ 10000000 ∧ 0 ≤ p ∧ p ≤ q) ⟨fun h => ⟨h.1, h.2.1, h.2.2.1, h.2.2.2⟩, fun h => ⟨h.q1, h.q2, h.p0, h.p1⟩⟩
instance (p q : Int) : Decidable (IsB p q) := inferInstanceAs (Decidable (_ ∧ _))
/-- The error of shares and a bound. -/
def bnE (l : List Int) (p q : Int) : Int := if shE l = 0 then (if IsB p q then 0 else 2) else shE l
theorem bn_ok {l : List Int} {p q : Int} : bnE l p q = 0 ↔ Good l ∧ IsB p q := by
  unfold bnE
  constructor
  · intro h
    by_cases hs : shE l = 0
    · rw [if_pos hs] at h
      by_cases hb : IsB p q
      · exact ⟨sh_good.1 hs, hb⟩
      · rw [if_neg hb] at h; cases h
    · rw [if_neg hs] at h; exact absurd h hs
  · intro ⟨h1, h2⟩
    rw [if_pos (sh_good.2 h1), if_pos h2]
theorem bounded_f (l : List Int) {p q : Int} (hp : -9223372036854775808 ≤ p ∧ p ≤ 9223372036854775807) (hq : -9223372036854775808 ≤ q ∧ q ≤ 9223372036854775807) :
    Ev (fun k => turn_bounded.f k l p q) (if shE l = 0 then (l, tot l, bnE l p q) else ([], 0, bnE l p q)) := by
  unfold turn_bounded.f
  by_cases hs : shE l = 0
  · have g := sh_good.1 hs
    rw [if_pos hs]
    refine Ev.bind (read_good g) (ev_pos rfl ?_)
    have bad : ¬ IsB p q → bnE l p q = 2 := fun h => by unfold bnE; rw [if_pos hs, if_neg h]
    by_cases hq0 : q > 0
    · have e : Ev (fun k => ratio_Lowest.f k p q) ((Int.gcd p q : Int) == 1) := by
        unfold ratio_Lowest.f
        exact ev_pos hq0 (Ev.bind (divisor_any q.natAbs p q (Nat.le_refl _) (by omega) (by omega) (fun h => by omega)) (Ev.now _))
      refine Ev.bind e ?_
      by_cases hg : (Int.gcd p q : Int) = 1
      · refine ev_pos (by simpa using hg) ?_
        by_cases c1 : q > 10000000
        · rw [bad (fun h => by have := h.1.q2; omega)]; exact ev_pos c1 (Ev.now _)
        refine ev_neg c1 ?_
        by_cases c2 : p < 0
        · rw [bad (fun h => by have := h.1.p0; omega)]; exact ev_pos c2 (Ev.now _)
        refine ev_neg c2 ?_
        by_cases c3 : p > q
        · rw [bad (fun h => by have := h.1.p1; omega)]; exact ev_pos c3 (Ev.now _)
        rw [bn_ok.2 ⟨g, ⟨by omega, by omega, by omega, by omega⟩, hg⟩]
        exact ev_neg c3 (Ev.now _)
      · rw [bad (fun h => hg h.2)]
        exact ev_neg (by simpa using hg) (Ev.now _)
    · have e : Ev (fun k => ratio_Lowest.f k p q) false := by
        unfold ratio_Lowest.f
        exact ev_neg hq0 (Ev.now _)
      rw [bad (fun h => by have := h.1.q1; omega)]
      exact Ev.bind e (ev_neg Bool.false_ne_true (Ev.now _))
  · have e : bnE l p q = shE l := if_neg hs
    rw [if_neg hs, e]
    exact Ev.bind (read_bad hs) (ev_neg hs (Ev.now _))
theorem IsBound_f (p q : Int) : Ev (fun k => trishawref01_IsBound.f k p q) (decide (IsB p q)) := by
  unfold trishawref01_IsBound.f
  by_cases c1 : q ≥ 1
  · refine ev_pos c1 ?_
    by_cases c2 : q ≤ 10000000
    · refine ev_pos c2 ?_
      by_cases c3 : p ≥ 0
      · refine ev_pos c3 ?_
        by_cases c4 : p ≤ q
        · refine ev_pos c4 (Ev.bind (Gcd_f (by omega) (by omega) (by omega) (by omega)) ?_)
          rw [show decide (IsB p q) = ((Int.gcd p q : Int) == 1) by
            rw [Bool.eq_iff_iff, decide_eq_true_iff, beq_iff_eq]
            exact ⟨fun h => h.2, fun h => ⟨⟨c1, c2, c3, c4⟩, h⟩⟩]
          exact Ev.now _
        · rw [decide_eq_false (fun h => c4 h.1.p1)]; exact ev_neg c4 (Ev.now _)
      · rw [decide_eq_false (fun h => c3 h.1.p0)]; exact ev_neg c3 (Ev.now _)
    · rw [decide_eq_false (fun h => c2 h.1.q2)]; exact ev_neg c2 (Ev.now _)
  · rw [decide_eq_false (fun h => c1 h.1.q1)]; exact ev_neg c1 (Ev.now _)
theorem Windows_good {l : List Int} (g : Good l) {p q : Int} (b : IsB p q) : ∃ ws, Ev (fun k => turn_Windows.f k l p q) (ws, 0) ∧ WsIs l p q ws := by
  obtain ⟨ws, e, h⟩ := windows_f g b.1
  have q1 := b.1.q1
  have q2 := b.1.q2
  have p0 := b.1.p0
  have p1 := b.1.p1
  have eb := bounded_f l (p := p) (q := q) (by omega) (by omega)
  rw [if_pos (sh_good.2 g), bn_ok.2 ⟨g, b⟩] at eb
  refine ⟨ws, ?_, h⟩
  unfold turn_Windows.f
  exact Ev.bind eb (ev_pos rfl (Ev.bind e (Ev.now _)))
theorem Windows_bad {l : List Int} {p q : Int} (hp : -9223372036854775808 ≤ p ∧ p ≤ 9223372036854775807) (hq : -9223372036854775808 ≤ q ∧ q ≤ 9223372036854775807) (hb : bnE l p q ≠ 0) : Ev (fun k => turn_Windows.f k l p q) ([], bnE l p q) := by
  have eb := bounded_f l hp hq
  unfold turn_Windows.f
  by_cases hs : shE l = 0
  · rw [if_pos hs] at eb
    exact Ev.bind eb (ev_neg hb (Ev.now _))
  · rw [if_neg hs] at eb
    exact Ev.bind eb (ev_neg hb (Ev.now _))
end Go.Proofs.YtgobffgogmnmpaaDoor.Pure
