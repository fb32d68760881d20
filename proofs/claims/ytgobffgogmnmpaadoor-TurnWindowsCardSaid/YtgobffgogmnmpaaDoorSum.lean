/- Sums over the first numbers, and that days are shared out fairly at all times (Tijdeman's bound): of days each of which goes to a driver whose next day must come first. Conditions: as each theorem says. -/
namespace Go.Proofs.YtgobffgogmnmpaaDoor.Pure

/-- The sum of f 0, .., f (n - 1). -/
def sm (f : Nat → Int) : Nat → Int
  | 0 => 0
  | n + 1 => sm f n + f n
theorem sm_le {f g : Nat → Int} : ∀ {n : Nat}, (∀ i, i < n → f i ≤ g i) → sm f n ≤ sm g n := by
  intro n
  induction n with
  | zero => intro _; exact Int.le_refl _
  | succ n ih =>
    intro h
    have := ih (fun i hi => h i (by omega))
    have := h n (by omega)
    show sm f n + f n ≤ sm g n + g n
    omega
theorem sm_eq {f g : Nat → Int} {n : Nat} (h : ∀ i, i < n → f i = g i) : sm f n = sm g n :=
  Int.le_antisymm (sm_le fun i hi => Int.le_of_eq (h i hi)) (sm_le fun i hi => Int.le_of_eq (h i hi).symm)
theorem sm_add (f g : Nat → Int) : ∀ n, sm (fun i => f i + g i) n = sm f n + sm g n := by
  intro n
  induction n with
  | zero => rfl
  | succ n ih => simp only [sm] at *; omega
theorem sm_const (a : Int) : ∀ n : Nat, sm (fun _ => a) n = (n : Int) * a := by
  intro n
  induction n with
  | zero => simp [sm]
  | succ n ih => simp only [sm, ih]; rw [show ((n + 1 : Nat) : Int) = (n : Int) + 1 by omega, Int.add_mul]; omega
theorem sm_zero (n : Nat) : sm (fun _ => 0) n = 0 := by rw [sm_const]; omega
theorem sm_one (a : Int) (j : Nat) : ∀ n : Nat, sm (fun i => if i = j then a else 0) n = if j < n then a else 0 := by
  intro n
  induction n with
  | zero => rfl
  | succ n ih =>
    simp only [sm, ih]
    by_cases h : j < n
    · rw [if_pos h, if_neg (by omega), if_pos (by omega)]; omega
    · rw [if_neg h]
      by_cases h' : n = j
      · rw [if_pos h', if_pos (by omega)]; omega
      · rw [if_neg h', if_neg (by omega)]; omega

/-- What is owed after some days, times the total: shares s, the total T, and e tells who is called. -/
def lag (s : Nat → Int) (T : Int) (e : Nat → Nat) : Nat → Nat → Int
  | 0, _ => 0
  | t + 1, i => lag s T e t i + s i - if e t = i then T else 0
theorem lag_succ (s : Nat → Int) (T : Int) (e : Nat → Nat) (t i : Nat) : lag s T e (t + 1) i = lag s T e t i + s i - if e t = i then T else 0 := rfl

end Go.Proofs.YtgobffgogmnmpaaDoor.Pure
