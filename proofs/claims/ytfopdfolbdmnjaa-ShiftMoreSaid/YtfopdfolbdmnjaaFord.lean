/- Rounds of relaxing over arcs: if the bounds can be kept at all, they are kept after as many rounds as there are nodes. Conditions: the arcs' ends are nodes. -/
import Derived.RowKit
namespace Go.Proofs.Ytfopdfolbdmnjaa.Pure

/-- From, to, at least so much more. -/
abbrev Arc := Nat × Nat × Int
def rx (x : Nat → Int) (a : Arc) : Nat → Int := if x a.2.1 < x a.1 + a.2.2 then (fun v => if v = a.2.1 then x a.1 + a.2.2 else x v) else x
def round (as : List Arc) (x : Nat → Int) : Nat → Int := as.foldl rx x
def Sat (as : List Arc) (y : Nat → Int) : Prop := ∀ a, a ∈ as → y a.1 + a.2.2 ≤ y a.2.1
def Feas (as : List Arc) : Prop := ∃ y, Sat as y
def iter (as : List Arc) : Nat → (Nat → Int) → (Nat → Int)
  | 0, x => x
  | m + 1, x => iter as m (round as x)
def zero : Nat → Int := fun _ => 0

theorem rx_ge (x : Nat → Int) (a : Arc) (v : Nat) : x v ≤ rx x a v := by
  unfold rx
  split
  · dsimp only
    split
    · next h1 h2 => rw [h2]; omega
    · exact Int.le_refl _
  · exact Int.le_refl _
theorem round_ge (as : List Arc) : ∀ (x : Nat → Int) (v : Nat), x v ≤ round as x v := by
  induction as with
  | nil => intro x v; exact Int.le_refl _
  | cons a as ih => intro x v; exact Int.le_trans (rx_ge x a v) (ih (rx x a) v)
theorem rx_le {x y : Nat → Int} {a : Arc} (ha : y a.1 + a.2.2 ≤ y a.2.1) (h : ∀ v, x v ≤ y v) (v : Nat) : rx x a v ≤ y v := by
  unfold rx
  split
  · dsimp only
    split
    · next h2 => rw [h2]; have := h a.1; omega
    · exact h v
  · exact h v
theorem round_le {y : Nat → Int} : ∀ (as : List Arc), Sat as y → ∀ {x : Nat → Int}, (∀ v, x v ≤ y v) → ∀ v, round as x v ≤ y v := by
  intro as
  induction as with
  | nil => intro _ x h v; exact h v
  | cons a as ih => intro hs x h v; exact ih (fun b hb => hs b (List.mem_cons_of_mem _ hb)) (fun u => rx_le (hs a (List.mem_cons_self ..)) h u) v
theorem rx_reach (x : Nat → Int) (a : Arc) : x a.1 + a.2.2 ≤ rx x a a.2.1 := by
  unfold rx
  split
  · dsimp only
    rw [if_pos rfl]; exact Int.le_refl _
  · omega
theorem round_reach : ∀ (as : List Arc) (x : Nat → Int) (a : Arc), a ∈ as → x a.1 + a.2.2 ≤ round as x a.2.1 := by
  intro as
  induction as with
  | nil => intro x a ha; cases ha
  | cons b as ih =>
    intro x a ha
    rcases List.mem_cons.1 ha with rfl | ha
    · exact Int.le_trans (rx_reach x a) (round_ge as (rx x a) a.2.1)
    · have h1 := rx_ge x b a.1
      have h2 := ih (rx x b) a ha
      show x a.1 + a.2.2 ≤ round as (rx x b) a.2.1
      omega
theorem rx_same {x : Nat → Int} {a : Arc} (h : x a.1 + a.2.2 ≤ x a.2.1) : rx x a = x := if_neg (by omega)
theorem round_same {x : Nat → Int} : ∀ {as : List Arc}, Sat as x → round as x = x := by
  intro as
  induction as with
  | nil => intro _; rfl
  | cons a as ih =>
    intro h
    show round as (rx x a) = x
    rw [rx_same (h a (List.mem_cons_self ..))]
    exact ih (fun b hb => h b (List.mem_cons_of_mem _ hb))
theorem iter_succ (as : List Arc) : ∀ (m : Nat) (x : Nat → Int), iter as (m + 1) x = round as (iter as m x) := by
  intro m
  induction m with
  | zero => intro x; rfl
  | succ m ih => intro x; exact ih (round as x)
theorem iter_le {as : List Arc} {y : Nat → Int} (hs : Sat as y) : ∀ (m : Nat) {x : Nat → Int}, (∀ v, x v ≤ y v) → ∀ v, iter as m x v ≤ y v := by
  intro m
  induction m with
  | zero => intro x h v; exact h v
  | succ m ih => intro x h v; exact ih (round_le as hs h) v
theorem iter_ge (as : List Arc) : ∀ (m : Nat) (x : Nat → Int) (v : Nat), x v ≤ iter as m x v := by
  intro m
  induction m with
  | zero => intro x v; exact Int.le_refl _
  | succ m ih => intro x v; exact Int.le_trans (round_ge as x v) (ih (round as x) v)
/-- Nodes that no arc goes to stay as they are. -/
theorem rx_far {x : Nat → Int} {a : Arc} {v : Nat} (h : v ≠ a.2.1) : rx x a v = x v := by
  unfold rx
  split
  · dsimp only; rw [if_neg h]
  · rfl
theorem round_far {N v : Nat} (hv : N ≤ v) : ∀ (as : List Arc), (∀ a, a ∈ as → a.2.1 < N) → ∀ x : Nat → Int, round as x v = x v := by
  intro as
  induction as with
  | nil => intro _ x; rfl
  | cons a as ih =>
    intro h x
    show round as (rx x a) v = x v
    rw [ih (fun b hb => h b (List.mem_cons_of_mem _ hb)), rx_far (by have := h a (List.mem_cons_self ..); omega)]
theorem iter_far {N v : Nat} (hv : N ≤ v) {as : List Arc} (h : ∀ a, a ∈ as → a.2.1 < N) : ∀ (m : Nat) (x : Nat → Int), iter as m x v = x v := by
  intro m
  induction m with
  | zero => intro x; rfl
  | succ m ih => intro x; exact (ih (round as x)).trans (round_far hv as h x)
def total (y : Nat → Int) : Nat → Int
  | 0 => 0
  | n + 1 => total y n + y n
def many (p : Nat → Bool) : Nat → Nat
  | 0 => 0
  | n + 1 => many p n + if p n then 1 else 0
theorem many_le (p : Nat → Bool) : ∀ n, many p n ≤ n
  | 0 => Nat.le_refl _
  | n + 1 => by have := many_le p n; unfold many; split <;> omega
theorem many_mono {p q : Nat → Bool} : ∀ n, (∀ v, v < n → q v = true → p v = true) → many q n ≤ many p n
  | 0, _ => Nat.le_refl _
  | n + 1, h => by
    have h1 := many_mono n (fun v hv => h v (by omega))
    have h2 := h n (by omega)
    unfold many
    cases hq : q n
    · simp only [Bool.false_eq_true, if_false]; omega
    · rw [h2 hq]; simp only [if_true]; omega
theorem many_lt {p q : Nat → Bool} : ∀ n, (∀ v, v < n → q v = true → p v = true) → (∃ v, v < n ∧ p v = true ∧ q v = false) → many q n < many p n
  | 0, _, ⟨v, hv, _⟩ => absurd hv (Nat.not_lt_zero _)
  | n + 1, h, ⟨v, hv, hp, hq⟩ => by
    have h1 := many_mono n (fun v hv => h v (by omega))
    have h2 := h n (by omega)
    unfold many
    by_cases e : v = n
    · subst e
      rw [hp, hq]; simp only [Bool.false_eq_true, if_false, if_true]; omega
    · have h3 := many_lt n (fun v hv => h v (by omega)) ⟨v, by omega, hp, hq⟩
      cases hq' : q n
      · simp only [Bool.false_eq_true, if_false]; omega
      · rw [h2 hq']; simp only [if_true]; omega
theorem many_zero {p : Nat → Bool} : ∀ n, many p n = 0 → ∀ v, v < n → p v = false
  | 0, _, v, hv => absurd hv (Nat.not_lt_zero _)
  | n + 1, h, v, hv => by
    unfold many at h
    have h1 : many p n = 0 := by omega
    by_cases e : v = n
    · subst e
      cases hp : p v
      · rfl
      · rw [hp] at h; simp only [if_true] at h; omega
    · exact many_zero n h1 v (by omega)
theorem total_le {x y : Nat → Int} : ∀ n, (∀ v, v < n → x v ≤ y v) → total x n ≤ total y n
  | 0, _ => Int.le_refl _
  | n + 1, h => by have := total_le n (fun v hv => h v (by omega)); have := h n (by omega); unfold total; omega
theorem total_lt {x y : Nat → Int} : ∀ n, (∀ v, v < n → x v ≤ y v) → (∃ v, v < n ∧ x v < y v) → total x n < total y n
  | 0, _, ⟨v, hv, _⟩ => absurd hv (Nat.not_lt_zero _)
  | n + 1, h, ⟨v, hv, hl⟩ => by
    have h1 := total_le n (fun v hv => h v (by omega))
    have h2 := h n (by omega)
    unfold total
    by_cases e : v = n
    · subst e; omega
    · have := total_lt n (fun v hv => h v (by omega)) ⟨v, by omega, hl⟩; omega
theorem total_nonneg {x : Nat → Int} : ∀ n, (∀ v, v < n → 0 ≤ x v) → 0 ≤ total x n
  | 0, _ => Int.le_refl _
  | n + 1, h => by have := total_nonneg n (fun v hv => h v (by omega)); have := h n (by omega); unfold total; omega

/-- A solution that is nowhere below 0: the rounds come to one, or a lesser one is found. -/
theorem ford_step (N : Nat) (as : List Arc) (hN : ∀ a, a ∈ as → a.1 < N ∧ a.2.1 < N) (y : Nat → Int) (hs : Sat as y) (h0 : ∀ v, 0 ≤ y v) :
    (∃ r, r ≤ N ∧ Sat as (iter as r zero)) ∨ ∃ z, Sat as z ∧ (∀ v, 0 ≤ z v) ∧ total z N < total y N := by
  by_cases hd : ∃ r, r < N ∧ many (fun v => decide (iter as (r + 1) zero v < y v)) N = many (fun v => decide (iter as r zero v < y v)) N ∧ 0 < many (fun v => decide (iter as r zero v < y v)) N
  · right
    obtain ⟨r, hr, he, hp⟩ := hd
    have hU : ∀ v, v < N → iter as r zero v < y v → iter as (r + 1) zero v < y v := by
      intro v hv h
      by_cases h' : iter as (r + 1) zero v < y v
      · exact h'
      · have := many_lt (p := fun v => decide (iter as r zero v < y v)) (q := fun v => decide (iter as (r + 1) zero v < y v)) N (fun u hu h2 => decide_eq_true (by
          have := of_decide_eq_true h2
          have h3 := round_ge as (iter as r zero) u
          rw [iter_succ] at this
          omega)) ⟨v, hv, decide_eq_true h, decide_eq_false h'⟩
        omega
    refine ⟨fun v => if v < N ∧ iter as r zero v < y v then y v - 1 else y v, ?_, ?_, ?_⟩
    · intro a ha
      obtain ⟨ha1, ha2⟩ := hN a ha
      have hsa := hs a ha
      dsimp only
      by_cases hb : a.2.1 < N ∧ iter as r zero a.2.1 < y a.2.1
      · rw [if_pos hb]
        by_cases hc : a.1 < N ∧ iter as r zero a.1 < y a.1
        · rw [if_pos hc]; omega
        · rw [if_neg hc]
          have h1 : iter as r zero a.1 = y a.1 := by
            have := iter_le hs r (x := zero) h0 a.1
            omega
          have h2 := round_reach as (iter as r zero) a ha
          have h3 := hU a.2.1 ha2 hb.2
          rw [iter_succ] at h3
          omega
      · rw [if_neg hb]; split <;> omega
    · intro v
      dsimp only
      have := h0 v
      have h2 := iter_ge as r zero v
      have h3 : zero v = 0 := rfl
      split <;> omega
    · refine total_lt N ?_ ?_
      · intro v hv; split <;> omega
      · have : ∃ v, v < N ∧ iter as r zero v < y v := by
          apply Classical.byContradiction
          intro hn
          have : many (fun v => decide (iter as r zero v < y v)) N ≤ many (fun _ => false) N := many_mono N (fun v hv h => absurd ⟨v, hv, of_decide_eq_true h⟩ hn)
          have h0 : ∀ n, many (fun _ => false) n = 0 := by
            intro n
            induction n with
            | zero => rfl
            | succ n ih => unfold many; rw [ih]; rfl
          rw [h0] at this
          omega
        obtain ⟨v, hv, hl⟩ := this
        refine ⟨v, hv, ?_⟩
        rw [if_pos ⟨hv, hl⟩]
        omega
  · left
    have key : ∀ r, r ≤ N → many (fun v => decide (iter as r zero v < y v)) N + r ≤ N ∨ many (fun v => decide (iter as r zero v < y v)) N = 0 := by
      intro r
      induction r with
      | zero => intro _; left; exact many_le _ N
      | succ r ih =>
        intro hr
        have hle : many (fun v => decide (iter as (r + 1) zero v < y v)) N ≤ many (fun v => decide (iter as r zero v < y v)) N := many_mono N (fun u hu h2 => decide_eq_true (by
          have := of_decide_eq_true h2
          have h3 := round_ge as (iter as r zero) u
          rw [iter_succ] at this
          omega))
        have hne : ¬ (many (fun v => decide (iter as (r + 1) zero v < y v)) N = many (fun v => decide (iter as r zero v < y v)) N ∧ 0 < many (fun v => decide (iter as r zero v < y v)) N) := fun h => hd ⟨r, by omega, h.1, h.2⟩
        rcases ih (by omega) with h | h
        · by_cases h5 : many (fun v => decide (iter as r zero v < y v)) N = 0
          · right; omega
          · left; omega
        · right; omega
    refine ⟨N, Nat.le_refl _, ?_⟩
    have hz : many (fun v => decide (iter as N zero v < y v)) N = 0 := by
      rcases key N (Nat.le_refl _) with h | h <;> omega
    have heq : ∀ v, v < N → iter as N zero v = y v := by
      intro v hv
      have h1 := of_decide_eq_false (many_zero N hz v hv)
      have h2 := iter_le hs N (x := zero) h0 v
      omega
    intro a ha
    obtain ⟨ha1, ha2⟩ := hN a ha
    rw [heq _ ha1, heq _ ha2]
    exact hs a ha
/-- The bounds can be kept exactly if they are kept after at most N rounds from 0 on. -/
theorem ford (N : Nat) (as : List Arc) (hN : ∀ a, a ∈ as → a.1 < N ∧ a.2.1 < N) (hf : Feas as) : ∃ r, r ≤ N ∧ Sat as (iter as r zero) := by
  obtain ⟨y, hs⟩ := hf
  -- the solution, lifted over 0
  have hlow : ∀ n : Nat, ∃ c : Int, ∀ v, v < n → 0 ≤ y v + c := by
    intro n
    induction n with
    | zero => exact ⟨0, fun v hv => absurd hv (Nat.not_lt_zero _)⟩
    | succ n ih =>
      obtain ⟨c, hc⟩ := ih
      by_cases h : 0 ≤ y n + c
      · exact ⟨c, fun v hv => by by_cases e : v = n; · rw [e]; exact h
                                 · exact hc v (by omega)⟩
      · refine ⟨- y n, fun v hv => ?_⟩
        by_cases e : v = n
        · rw [e]; omega
        · have := hc v (by omega); omega
  obtain ⟨c, hc⟩ := hlow N
  have main : ∀ (m : Nat) (z : Nat → Int), total z N ≤ m → Sat as z → (∀ v, 0 ≤ z v) → ∃ r, r ≤ N ∧ Sat as (iter as r zero) := by
    intro m
    induction m with
    | zero =>
      intro z hm hz h0
      rcases ford_step N as hN z hz h0 with h | ⟨z', h1, h2, h3⟩
      · exact h
      · have := total_nonneg N (fun v _ => h2 v); omega
    | succ m ih =>
      intro z hm hz h0
      rcases ford_step N as hN z hz h0 with h | ⟨z', h1, h2, h3⟩
      · exact h
      · exact ih z' (by omega) h1 h2
  refine main (total (fun v => if v < N then y v + c else 0) N).toNat (fun v => if v < N then y v + c else 0) (by omega) ?_ ?_
  · intro a ha
    obtain ⟨ha1, ha2⟩ := hN a ha
    dsimp only
    rw [if_pos ha1, if_pos ha2]
    have := hs a ha
    omega
  · intro v
    split
    · exact hc v (by assumption)
    · exact Int.le_refl _
theorem iter_sat {as : List Arc} {r : Nat} {x : Nat → Int} (h : Sat as (iter as r x)) : ∀ d, Sat as (iter as (r + d) x) := by
  intro d
  induction d with
  | zero => exact h
  | succ d ih =>
    show Sat as (iter as ((r + d) + 1) x)
    rw [iter_succ, round_same ih]
    exact ih
#print axioms ford
end Go.Proofs.Ytfopdfolbdmnjaa.Pure
