/- Whom Fair calls, and that Fair keeps Tijdeman's bound. Conditions: shares of the document, at most 400 days. -/
import Derived.Test.YtgobffgogmnmpaaDoorRun
namespace Go.Proofs.YtgobffgogmnmpaaDoor.Pure
open Go.RowKit Go.Proofs.YtgobffgogmnmpaaDoor.P Go.Proofs.YtgobffgogmnmpaaDoorW.PrintWords Go.Proofs.YtgobffgogmnmpaaDoorW.PrintLast Go.Proofs.YtgobffgogmnmpaaDoorW.PrintMore

/-- What is left until a driver's next day must come, times their share, the total and d. -/
def lft (T d : Int) (y : Nat → Int) (i : Nat) : Int := (d - 1) * T - d * y i
/-- Fair's search: of those who may be called the one whose next day must come first. -/
def fbt (s : Nat → Int) (T d : Int) (y : Nat → Int) (i : Nat) : Option Nat → Option Nat
  | none => some i
  | some b => if lft T d y i * s b < lft T d y b * s i then some i else some b
def fbs (s : Nat → Int) (T d : Int) (y : Nat → Int) (i : Nat) (o : Option Nat) : Option Nat := if d * y i < T then o else fbt s T d y i o
def fb (s : Nat → Int) (T d : Int) (y : Nat → Int) : Nat → Nat → Option Nat → Option Nat
  | 0, _, o => o
  | r + 1, i, o => fb s T d y r (i + 1) (fbs s T d y i o)
/-- What the search knows. -/
structure Fb (s : Nat → Int) (T d : Int) (y : Nat → Int) (i b : Nat) : Prop where
  lt : b < i
  may : T ≤ d * y b
  first : ∀ j, j < i → T ≤ d * y j → lft T d y b * s j ≤ lft T d y j * s b
theorem fb_step {s : Nat → Int} {T d : Int} {y : Nat → Int} {i : Nat} (hs : ∀ j, j ≤ i → 0 < s j) {o : Option Nat} (h : ∀ b, o = some b → Fb s T d y i b) (hn : o = none → ∀ j, j < i → ¬ T ≤ d * y j) :
    (∀ b, fbs s T d y i o = some b → Fb s T d y (i + 1) b) ∧ (fbs s T d y i o = none → ∀ j, j < i + 1 → ¬ T ≤ d * y j) := by
  unfold fbs
  by_cases c : d * y i < T
  · rw [if_pos c]
    refine ⟨fun b hb => ?_, fun ho j hj => ?_⟩
    · have f := h b hb
      refine ⟨by have := f.lt; omega, f.may, fun j hj hm => ?_⟩
      by_cases e : j = i
      · subst e; omega
      · exact f.first j (by omega) hm
    · by_cases e : j = i
      · subst e; omega
      · exact hn ho j (by omega)
  · rw [if_neg c]
    cases o with
    | none =>
      refine ⟨fun b hb => ?_, fun ho => by cases ho⟩
      obtain rfl : i = b := Option.some.inj hb
      refine ⟨by omega, by omega, fun j hj hm => ?_⟩
      by_cases e : j = i
      · subst e; exact Int.le_refl _
      · exact absurd hm (hn rfl j (by omega))
    | some b0 =>
      have f := h b0 rfl
      show (∀ b, (if lft T d y i * s b0 < lft T d y b0 * s i then some i else some b0) = some b → Fb s T d y (i + 1) b) ∧ ((if lft T d y i * s b0 < lft T d y b0 * s i then some i else some b0) = none → ∀ j, j < i + 1 → ¬ T ≤ d * y j)
      by_cases c2 : lft T d y i * s b0 < lft T d y b0 * s i
      · rw [if_pos c2]
        refine ⟨fun b hb => ?_, fun ho => by cases ho⟩
        obtain rfl : i = b := Option.some.inj hb
        refine ⟨by omega, by omega, fun j hj hm => ?_⟩
        by_cases e : j = i
        · subst e; exact Int.le_refl _
        · have h1 := f.first j (by omega) hm
          have p0 := hs b0 (by have := f.lt; omega)
          have pj := hs j (by omega)
          have pi := hs i (by omega)
          have k1 : lft T d y i * s b0 * s j ≤ lft T d y b0 * s i * s j := Int.mul_le_mul_of_nonneg_right (Int.le_of_lt c2) (Int.le_of_lt pj)
          have k2 : lft T d y b0 * s j * s i ≤ lft T d y j * s b0 * s i := Int.mul_le_mul_of_nonneg_right h1 (Int.le_of_lt pi)
          refine Int.le_of_mul_le_mul_right (a := s b0) ?_ p0
          rw [Int.mul_right_comm (lft T d y i), Int.mul_right_comm (lft T d y j)]
          rw [Int.mul_right_comm (lft T d y b0) (s i)] at k1
          exact Int.le_trans k1 k2
      · rw [if_neg c2]
        refine ⟨fun b hb => ?_, fun ho => by cases ho⟩
        obtain rfl : b0 = b := Option.some.inj hb
        refine ⟨by have := f.lt; omega, f.may, fun j hj hm => ?_⟩
        by_cases e : j = i
        · subst e; omega
        · exact f.first j (by omega) hm
theorem fb_is {s : Nat → Int} {T d : Int} {y : Nat → Int} {n : Nat} (hs : ∀ j, j < n → 0 < s j) : ∀ (r i : Nat) (o : Option Nat), i + r = n → (∀ b, o = some b → Fb s T d y i b) → (o = none → ∀ j, j < i → ¬ T ≤ d * y j) →
    (∀ b, fb s T d y r i o = some b → Fb s T d y n b) ∧ (fb s T d y r i o = none → ∀ j, j < n → ¬ T ≤ d * y j) := by
  intro r
  induction r with
  | zero =>
    intro i o hi h hn
    obtain rfl : i = n := by omega
    exact ⟨h, hn⟩
  | succ r ih =>
    intro i o hi h hn
    have st := fb_step (i := i) (fun j hj => hs j (by omega)) h hn
    exact ih (i + 1) _ (by omega) st.1 st.2
def dd (l : List Int) : Int := 2 * (l.length : Int) - 2
/-- Fair's pick. -/
def pickF (l : List Int) (c : Nat → Nat) (t : Nat) : Nat := if l.length = 1 then 0 else (fb (sh l) (tot l) (dd l) (due l c t) l.length 0 none).getD 0
theorem pickF_lt {l : List Int} (g : Good l) (c : Nat → Nat) (t : Nat) : pickF l c t < l.length := by
  unfold pickF
  have := g.pos
  split
  · exact g.pos
  · have := fb_is (s := sh l) (T := tot l) (d := dd l) (y := due l c t) (n := l.length) (fun j hj => by have := g.low j hj; omega) l.length 0 none (by omega) (fun b hb => by cases hb) (fun _ j hj => by omega)
    cases h : fb (sh l) (tot l) (dd l) (due l c t) l.length 0 none with
    | none => exact g.pos
    | some b => exact (this.1 b h).lt
theorem due_sum {l : List Int} (e : Nat → Nat) (t : Nat) (h : ∀ τ, τ < t → e τ < l.length) : sm (due l (cnt e t) t) l.length = tot l := by
  have e1 : sm (due l (cnt e t) t) l.length = sm (fun i => lag (sh l) (tot l) e t i + sh l i) l.length := sm_eq fun i _ => by
    unfold due
    rw [lag_cnt, show ((t + 1 : Nat) : Int) = (t : Int) + 1 by omega, Int.mul_add]; omega
  rw [e1, sm_add, lag_sum (T := tot l) rfl t h]
  show 0 + tot l = tot l
  omega
theorem due_lag (l : List Int) (e : Nat → Nat) (t : Nat) (i : Nat) : due l (cnt e t) t i = lag (sh l) (tot l) e t i + sh l i := by
  unfold due
  rw [lag_cnt, show ((t + 1 : Nat) : Int) = (t : Int) + 1 by omega, Int.mul_add]; omega
/-- Fair finds somebody who may be called. -/
theorem pickF_some {l : List Int} (g : Good l) (h2 : 2 ≤ l.length) {c : Nat → Nat} {t : Nat} (hy : sm (due l c t) l.length = tot l) : ∃ b, fb (sh l) (tot l) (dd l) (due l c t) l.length 0 none = some b ∧ pickF l c t = b ∧ FairPick (sh l) (tot l) (dd l) l.length (due l c t) b := by
  have hb := fb_is (s := sh l) (T := tot l) (d := dd l) (y := due l c t) (n := l.length) (fun j hj => by have := g.low j hj; omega) l.length 0 none (by omega) (fun b hb => by cases hb) (fun _ j hj => by omega)
  have hT := g.tot_pos
  have hp : pickF l c t = (fb (sh l) (tot l) (dd l) (due l c t) l.length 0 none).getD 0 := if_neg (by omega)
  cases h : fb (sh l) (tot l) (dd l) (due l c t) l.length 0 none with
  | none =>
    obtain ⟨i, hi, hm⟩ := some_may (T := tot l) (y := due l c t) h2 (by omega) hy
    exact absurd hm (hb.2 h i hi)
  | some b =>
    have f := hb.1 b h
    exact ⟨b, rfl, by rw [hp, h]; rfl, f.lt, f.may, fun i hi hm => f.first i hi hm⟩
theorem fair_lt {l : List Int} (g : Good l) (t : Nat) : called (pickF l) t < l.length := pickF_lt g _ t
/-- Tijdeman's bound, for Fair. -/
theorem fair_bound {l : List Int} (g : Good l) (h2 : 2 ≤ l.length) (t i : Nat) (hi : i < l.length) : -((dd l - 1) * tot l) ≤ dd l * lag (sh l) (tot l) (called (pickF l)) t i ∧ dd l * lag (sh l) (tot l) (called (pickF l)) t i ≤ (dd l - 1) * tot l := by
  refine tijdeman (M := t) h2 (fun j hj => by have := g.low j hj; omega) rfl (fun τ hτ => ?_) t (Nat.le_refl _) i hi
  have hy := due_sum (l := l) (called (pickF l)) τ (fun σ _ => fair_lt g σ)
  rw [cnt_called] at hy
  obtain ⟨b, _, e, f⟩ := pickF_some g h2 hy
  rw [← e] at f
  have hd : due l (run (pickF l) τ) τ = fun i => lag (sh l) (tot l) (called (pickF l)) τ i + sh l i := by
    funext i; rw [← cnt_called, due_lag]
  rw [hd] at f
  exact f
/-- With one driver nothing is owed. -/
theorem fair_one {l : List Int} (h1 : l.length = 1) (t i : Nat) (hi : i < l.length) : lag (sh l) (tot l) (called (pickF l)) t i = 0 := by
  obtain rfl : i = 0 := by omega
  induction t with
  | zero => rfl
  | succ t ih =>
    rw [lag_succ, ih, if_pos (show called (pickF l) t = 0 from if_pos h1)]
    have : tot l = sh l 0 := by
      unfold tot; rw [h1]
      show (0 : Int) + sh l 0 = sh l 0
      omega
    omega
/-- Nobody is ever a whole day away from what is due. -/
theorem fair_quota {l : List Int} (g : Good l) (t i : Nat) (hi : i < l.length) : -(tot l - 1) ≤ lag (sh l) (tot l) (called (pickF l)) t i ∧ lag (sh l) (tot l) (called (pickF l)) t i ≤ tot l - 1 := by
  have hT := g.tot_pos
  have hp := g.pos
  by_cases h1 : l.length = 1
  · rw [fair_one h1 t i hi]; omega
  · have hb := fair_bound g (by omega) t i hi
    have hd : 2 ≤ dd l := by unfold dd; omega
    have e1 : (dd l - 1) * tot l = dd l * tot l - tot l := by rw [Int.sub_mul]; omega
    refine ⟨?_, ?_⟩
    · refine Int.not_lt.1 fun h => ?_
      have := Int.mul_le_mul_of_nonneg_left (show lag (sh l) (tot l) (called (pickF l)) t i ≤ -(tot l) by omega) (show 0 ≤ dd l by omega)
      rw [Int.mul_neg] at this
      omega
    · refine Int.not_lt.1 fun h => ?_
      have := Int.mul_le_mul_of_nonneg_left (show tot l ≤ lag (sh l) (tot l) (called (pickF l)) t i by omega) (show 0 ≤ dd l by omega)
      omega
/-- After the total of days each has been called as often as their share. -/
theorem fair_round {l : List Int} (g : Good l) (i : Nat) (hi : i < l.length) : (cnt (called (pickF l)) (tot l).toNat i : Int) = sh l i := by
  have hT := g.tot_pos
  have hp := g.pos
  have hq := fair_quota g (tot l).toNat i hi
  rw [lag_cnt, show (((tot l).toNat : Nat) : Int) = tot l by omega, ← Int.sub_mul] at hq
  by_cases h : sh l i < (cnt (called (pickF l)) (tot l).toNat i : Int)
  · have := Int.mul_le_mul_of_nonneg_right (show sh l i - (cnt (called (pickF l)) (tot l).toNat i : Int) ≤ -1 by omega) (show 0 ≤ tot l by omega)
    omega
  · by_cases h' : (cnt (called (pickF l)) (tot l).toNat i : Int) < sh l i
    · have := Int.mul_le_mul_of_nonneg_right (show 1 ≤ sh l i - (cnt (called (pickF l)) (tot l).toNat i : Int) by omega) (show 0 ≤ tot l by omega)
      omega
    · omega
end Go.Proofs.YtgobffgogmnmpaaDoor.Pure
