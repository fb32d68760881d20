/- Quarters of two-way streets: the count T over neighbours falls when a street goes, falls to 0 exactly if the street is a bridge, and is 1 for as many streets as corners less one that all are bridges. Conditions: a street joins two corners of the quarter. -/
import Derived.Test.YtlcgoacmlbeliaaTree
namespace Go.Proofs.Ytlcgoacmlbeliaa.Det
set_option linter.unusedVariables false
set_option linter.unusedSimpArgs false
theorem T_put_sum (m : Nat) (P : Nat → List Nat) (v : Nat) (h1 : 1 ≤ v) (h2 : v ≤ m) : ∀ l, T m (put P v l) = (l.map (fun x => T m (put P v [x]))).sum
  | [] => by rw [T_put_nil m P v h1 h2]; rfl
  | x :: l => by
    have := T_put_append m P v [x] l h1 h2
    simp only [List.cons_append, List.nil_append] at this
    rw [this, T_put_sum m P v h1 h2 l, List.map_cons, List.sum_cons]
theorem pair_sum {α : Type} {R : α → α → Prop} {g : α → Nat} : ∀ {l : List α}, l.Pairwise R → (∀ x y, 0 < g x → 0 < g y → ¬ R x y) → 0 < (l.map g).sum → ∃ x ∈ l, (l.map g).sum = g x
  | [], _, _, h => by simp at h
  | x :: l, hp, hg, h => by
    obtain ⟨h1, h2⟩ := List.pairwise_cons.1 hp
    simp only [List.map_cons, List.sum_cons] at h ⊢
    by_cases hl : 0 < (l.map g).sum
    · obtain ⟨y, hy, e⟩ := pair_sum h2 hg hl
      have hx : ¬ 0 < g x := fun hx => hg x y hx (by omega) (h1 y hy)
      exact ⟨y, by simp [hy], by omega⟩
    · exact ⟨x, by simp, by omega⟩
theorem Past.mono {P Q : Nat → List Nat} {u v : Nat} (hPQ : ∀ w, w ≠ u → ∀ x ∈ P w, x ∈ Q w) (h : Past P u v) : Past Q u v := by
  induction h with
  | root => exact .root
  | step hv hx _ ih => exact .step hv (hPQ _ hv _ hx) ih
/-- No two parents of a corner reach corner 0 past it. -/
def Alone (P : Nat → List Nat) (v : Nat) : Prop := (P v).Pairwise (fun x y => ¬ (Past P v x ∧ Past P v y))
theorem T_alone (m : Nat) (P : Nat → List Nat) (hP : ∀ v, 1 ≤ v → v ≤ m → ∀ x ∈ P v, x ≤ m) (ha : ∀ v, 1 ≤ v → v ≤ m → Alone P v) : T m P ≤ 1 := by
  by_cases h0 : 0 < T m P
  case neg => omega
  have go : ∀ k, k ≤ m → ∃ Q : Nat → List Nat, (∀ v, 1 ≤ v → v ≤ k → (Q v).length ≤ 1) ∧ (∀ v, ∀ x ∈ Q v, x ∈ P v) ∧ (∀ v, k < v → Q v = P v) ∧ T m P ≤ T m Q := by
    intro k
    induction k with
    | zero => intro _; exact ⟨P, fun v h1 h2 => by omega, fun _ _ h => h, fun _ _ => rfl, Nat.le_refl _⟩
    | succ k ih =>
      intro hk
      obtain ⟨Q, q1, q2, q3, q4⟩ := ih (by omega)
      have e : T m Q = ((P (k + 1)).map (fun x => T m (put Q (k + 1) [x]))).sum := by
        rw [← T_put_sum m Q (k + 1) (by omega) hk, ← q3 (k + 1) (by omega), put_self]
      have past : ∀ x ∈ P (k + 1), 0 < T m (put Q (k + 1) [x]) → Past P (k + 1) x := by
        intro x hx hpos
        have hb : ∀ v, 1 ≤ v → v ≤ m → ∀ y ∈ put Q (k + 1) [x] v, y ≤ m := by
          intro v h1 h2 y hy
          unfold put at hy
          split at hy
          · simp at hy; subst hy; exact hP (k + 1) (by omega) hk y hx
          · exact hP v h1 h2 y (q2 v y hy)
        obtain ⟨a, h1, h2⟩ := ((T_pos m hb).1 hpos (k + 1) (by omega) hk).self_past (by omega)
        have e1 : put Q (k + 1) [x] (k + 1) = [x] := by unfold put; rw [if_pos rfl]
        rw [e1] at h1
        simp at h1
        subst h1
        exact h2.mono (fun w hw y hy => by unfold put at hy; rw [if_neg hw] at hy; exact q2 w y hy)
      have hpos : 0 < T m Q := by omega
      have hal : (P (k + 1)).Pairwise (fun x y => ¬ (0 < T m (put Q (k + 1) [x]) ∧ 0 < T m (put Q (k + 1) [y]))) := by
        refine (ha (k + 1) (by omega) hk).imp_of_mem ?_
        intro x y hx hy h1 h2
        exact h1 ⟨past x hx h2.1, past y hy h2.2⟩
      rw [e] at hpos
      obtain ⟨x, hx, ex⟩ := pair_sum (g := fun x => T m (put Q (k + 1) [x])) hal (fun x y h1 h2 h3 => h3 ⟨h1, h2⟩) hpos
      refine ⟨put Q (k + 1) [x], fun v h1 h2 => ?_, fun v y hy => ?_, fun v hv => ?_, by rw [← ex, ← e]; exact q4⟩
      · unfold put; split
        · simp
        · exact q1 v h1 (by omega)
      · unfold put at hy; split at hy
        · next h => simp at hy; subst hy; rw [h]; exact hx
        · exact q2 v y hy
      · unfold put; rw [if_neg (by omega)]; exact q3 v (by omega)
  obtain ⟨Q, q1, _, _, q4⟩ := go m (Nat.le_refl _)
  exact Nat.le_trans q4 (T_single m q1)
end Go.Proofs.Ytlcgoacmlbeliaa.Det
