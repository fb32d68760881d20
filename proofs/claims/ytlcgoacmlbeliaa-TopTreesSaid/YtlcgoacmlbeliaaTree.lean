/- The count T of branchings: it grows with the lists of parents, it is above 0 exactly if every corner reaches corner 0, and at most 1 if at most one parent of each corner serves. Conditions: parents are corners of the town. -/
import Derived.Test.YtlcgoacmlbeliaaDet
namespace Go.Proofs.Ytlcgoacmlbeliaa.Det
set_option linter.unusedVariables false
set_option linter.unusedSimpArgs false
theorem sum_sublist {α : Type} {f g : α → Nat} {l l' : List α} (h : l.Sublist l') (hf : ∀ a ∈ l, f a ≤ g a) : (l.map f).sum ≤ (l'.map g).sum := by
  induction h with
  | slnil => simp
  | cons a _ ih => simp only [List.map_cons, List.sum_cons]; have := ih hf; omega
  | cons_cons a _ ih =>
    simp only [List.map_cons, List.sum_cons]
    have h1 := ih (fun b hb => hf b (by simp [hb])); have h2 := hf a (by simp); omega
theorem con_sublist {P Q : Nat → List Nat} (h : ∀ v, (P v).Sublist (Q v)) (a : Nat) : ∀ v, (con a P v).Sublist (con a Q v) := fun v => (h (v + 1)).map _
theorem T_mono : ∀ (m : Nat) {P Q : Nat → List Nat}, (∀ v, (P v).Sublist (Q v)) → T m P ≤ T m Q
  | 0, _, _, _ => Nat.le_refl _
  | m + 1, P, Q, h => by
    refine sum_sublist (h 1) (fun a _ => ?_)
    split
    · exact Nat.le_refl _
    · exact T_mono m (con_sublist h a)
theorem T_congr : ∀ (m : Nat) {P Q : Nat → List Nat}, (∀ v, 1 ≤ v → v ≤ m → P v = Q v) → T m P = T m Q
  | 0, _, _, _ => rfl
  | m + 1, P, Q, h => by
    simp only [T]
    rw [h 1 (by omega) (by omega)]
    congr 1
    refine List.map_congr_left (fun a _ => ?_)
    rw [T_congr m (P := con a P) (Q := con a Q) (fun v h1 h2 => by unfold con; rw [h (v + 1) (by omega) (by omega)])]
/-- A corner from which corner 0 is reached along parents. -/
inductive Up (P : Nat → List Nat) : Nat → Prop
  | root : Up P 0
  | step {v a : Nat} (h : a ∈ P v) (hu : Up P a) : Up P v
/-- The same, past a corner. -/
inductive Past (P : Nat → List Nat) (u : Nat) : Nat → Prop
  | root : Past P u 0
  | step {v a : Nat} (hv : v ≠ u) (h : a ∈ P v) (hu : Past P u a) : Past P u v
theorem Up.past {P : Nat → List Nat} {v : Nat} (u : Nat) (h : Up P v) : Past P u v ∨ ∃ a ∈ P u, Past P u a := by
  induction h with
  | root => exact .inl .root
  | @step v a h _ ih =>
    rcases ih with ih | ih
    · by_cases hv : v = u
      · subst hv; exact .inr ⟨a, h, ih⟩
      · exact .inl (.step hv h ih)
    · exact .inr ih
theorem Past.ne {P : Nat → List Nat} {u v : Nat} (hu : u ≠ 0) (h : Past P u v) : v ≠ u := by
  cases h with
  | root => exact fun e => hu e.symm
  | step hv _ _ => exact hv
theorem Up.self_past {P : Nat → List Nat} {u : Nat} (hu : u ≠ 0) (h : Up P u) : ∃ a ∈ P u, Past P u a := by
  rcases h.past u with h | h
  · exact absurd rfl (h.ne hu)
  · exact h
theorem Up.of_con {P : Nat → List Nat} {a : Nat} (ha : a ∈ P 1) (ha1 : a ≠ 1) {u : Nat} (h : Up (con a P) u) : 1 ≤ u → Up P (u + 1) := by
  induction h with
  | root => intro h; omega
  | @step v x hx _ ih =>
    intro hv
    obtain ⟨y, hy, rfl⟩ := List.mem_map.1 hx
    unfold rel at ih
    by_cases hy1 : y = 1
    · subst hy1
      rw [if_pos rfl] at ih
      have : Up P a := by
        by_cases h0 : a = 0
        · subst h0; exact .root
        · have := ih (by omega)
          rwa [show a - 1 + 1 = a by omega] at this
      exact .step hy (.step ha this)
    · rw [if_neg hy1] at ih
      by_cases h0 : y = 0
      · subst h0; exact .step hy .root
      · have := ih (by omega)
        rw [show y - 1 + 1 = y by omega] at this
        exact .step hy this
theorem Past.to_con {P : Nat → List Nat} {a v : Nat} (h : Past P 1 v) : Up (con a P) (v - 1) := by
  induction h with
  | root => exact .root
  | @step v x hv hx hp ih =>
    by_cases h0 : v = 0
    · subst h0; exact .root
    · have hx1 : x ≠ 1 := hp.ne (by omega)
      refine .step (a := x - 1) ?_ ih
      unfold con
      rw [show v - 1 + 1 = v by omega]
      exact List.mem_map.2 ⟨x, hx, by unfold rel; rw [if_neg hx1]⟩
theorem Up.to_con {P : Nat → List Nat} {a v : Nat} (hp : Past P 1 a) (h : Up P v) : v ≠ 1 → Up (con a P) (v - 1) := by
  induction h with
  | root => intro _; exact .root
  | @step v x hx _ ih =>
    intro hv
    by_cases h0 : v = 0
    · subst h0; exact .root
    · have hm : rel a x ∈ con a P (v - 1) := by
        unfold con
        rw [show v - 1 + 1 = v by omega]
        exact List.mem_map.2 ⟨x, hx, rfl⟩
      by_cases hx1 : x = 1
      · subst hx1
        have e : rel a 1 = a - 1 := by unfold rel; rw [if_pos rfl]
        rw [e] at hm
        exact .step hm hp.to_con
      · have e : rel a x = x - 1 := by unfold rel; rw [if_neg hx1]
        rw [e] at hm
        exact .step hm (ih hx1)
theorem le_sum {l : List Nat} {x : Nat} (h : x ∈ l) : x ≤ l.sum := by
  induction l with
  | nil => cases h
  | cons y l ih =>
    simp only [List.sum_cons]
    rcases List.mem_cons.1 h with h | h
    · omega
    · have := ih h; omega
theorem sum_pos {l : List Nat} (h : 0 < l.sum) : ∃ x ∈ l, 0 < x := by
  induction l with
  | nil => simp at h
  | cons y l ih =>
    by_cases hy : 0 < y
    · exact ⟨y, by simp, hy⟩
    · simp only [List.sum_cons] at h
      obtain ⟨x, hx, h1⟩ := ih (by omega)
      exact ⟨x, by simp [hx], h1⟩
theorem con_le {m : Nat} {P : Nat → List Nat} {a : Nat} (hP : ∀ v, 1 ≤ v → v ≤ m + 1 → ∀ x ∈ P v, x ≤ m + 1) (ha : a ≤ m + 1) : ∀ v, 1 ≤ v → v ≤ m → ∀ x ∈ con a P v, x ≤ m := by
  intro v h1 h2 x hx
  obtain ⟨y, hy, rfl⟩ := List.mem_map.1 hx
  have := hP (v + 1) (by omega) (by omega) y hy
  unfold rel; split <;> omega
theorem T_pos : ∀ (m : Nat) {P : Nat → List Nat}, (∀ v, 1 ≤ v → v ≤ m → ∀ x ∈ P v, x ≤ m) → (0 < T m P ↔ ∀ v, 1 ≤ v → v ≤ m → Up P v)
  | 0, _, _ => ⟨fun _ v h1 h2 => by omega, fun _ => by simp [T]⟩
  | m + 1, P, hP => by
    constructor
    · intro h
      obtain ⟨x, hx, hpos⟩ := sum_pos h
      obtain ⟨a, ha, rfl⟩ := List.mem_map.1 hx
      have ha1 : a ≠ 1 := by rintro rfl; simp at hpos
      rw [if_neg ha1] at hpos
      have hle := hP 1 (by omega) (by omega) a ha
      have ih := (T_pos m (con_le hP hle)).1 hpos
      have hbig : ∀ v, 2 ≤ v → v ≤ m + 1 → Up P v := fun v h1 h2 => by
        have := (ih (v - 1) (by omega) (by omega)).of_con ha ha1 (by omega)
        rwa [show v - 1 + 1 = v by omega] at this
      intro v h1 h2
      by_cases hv : v = 1
      · subst hv
        by_cases h0 : a = 0
        · subst h0; exact .step ha .root
        · exact .step ha (hbig a (by omega) hle)
      · exact hbig v (by omega) h2
    · intro h
      obtain ⟨a, ha, hp⟩ := (h 1 (by omega) (by omega)).self_past (by omega)
      have ha1 : a ≠ 1 := hp.ne (by omega)
      have hle := hP 1 (by omega) (by omega) a ha
      have ih := (T_pos m (con_le hP hle)).2 (fun v h1 h2 => by
        have := (h (v + 1) (by omega) (by omega)).to_con hp (by omega)
        rwa [show v + 1 - 1 = v by omega] at this)
      refine Nat.lt_of_lt_of_le ih ?_
      refine le_sum (List.mem_map.2 ⟨a, ha, by rw [if_neg ha1]⟩)
/-- One corner's parents told anew. -/
def put (P : Nat → List Nat) (v : Nat) (l : List Nat) : Nat → List Nat := fun u => if u = v then l else P u
theorem con_put {P : Nat → List Nat} {v a : Nat} {l : List Nat} (hv : 2 ≤ v) : con a (put P v l) = put (con a P) (v - 1) (l.map (rel a)) := by
  funext u
  unfold con put
  by_cases h : u + 1 = v
  · rw [if_pos h, if_pos (by omega)]
  · rw [if_neg h, if_neg (by omega)]
theorem T_put_append : ∀ (m : Nat) (P : Nat → List Nat) (v : Nat) (A B : List Nat), 1 ≤ v → v ≤ m → T m (put P v (A ++ B)) = T m (put P v A) + T m (put P v B)
  | 0, _, _, _, _, h1, h2 => by omega
  | m + 1, P, v, A, B, h1, h2 => by
    by_cases hv : v = 1
    · subst hv
      simp only [T]
      have e : ∀ (l : List Nat) (a : Nat), T m (con a (put P 1 l)) = T m (con a P) := fun l a => T_congr m (fun u h3 _ => by unfold con put; rw [if_neg (by omega)])
      simp only [e]
      show (((put P 1 (A ++ B) 1).map _).sum) = _
      have p : ∀ l, put P 1 l 1 = l := fun l => by unfold put; rw [if_pos rfl]
      rw [p, p, p, List.map_append, List.sum_append]
    · simp only [T]
      have p : ∀ l, put P v l 1 = P 1 := fun l => by unfold put; rw [if_neg (by omega)]
      rw [p, p, p]
      generalize P 1 = l1
      induction l1 with
      | nil => rfl
      | cons a l1 ih =>
        simp only [List.map_cons, List.sum_cons]
        rw [ih]
        split
        · omega
        · rw [con_put (by omega), con_put (by omega), con_put (by omega), List.map_append, T_put_append m _ (v - 1) _ _ (by omega) (by omega)]
          omega
theorem T_put_nil : ∀ (m : Nat) (P : Nat → List Nat) (v : Nat), 1 ≤ v → v ≤ m → T m (put P v []) = 0 := fun m P v h1 h2 => by
  have := T_put_append m P v [] [] h1 h2
  simp only [List.append_nil] at this
  omega
theorem put_self {P : Nat → List Nat} {v : Nat} : put P v (P v) = P := by
  funext u; unfold put; split
  · next h => rw [h]
  · rfl
/-- At most one parent each: at most one branching. -/
theorem T_single : ∀ (m : Nat) {P : Nat → List Nat}, (∀ v, 1 ≤ v → v ≤ m → (P v).length ≤ 1) → T m P ≤ 1
  | 0, _, _ => Nat.le_refl _
  | m + 1, P, h => by
    have h1 := h 1 (by omega) (by omega)
    simp only [T]
    match hP : P 1, h1 with
    | [], _ => simp
    | [a], _ =>
      simp only [List.map_cons, List.map_nil, List.sum_cons, List.sum_nil]
      have := T_single m (P := con a P) (fun v h2 h3 => by unfold con; rw [List.length_map]; exact h (v + 1) (by omega) (by omega))
      split <;> omega
end Go.Proofs.Ytlcgoacmlbeliaa.Det
