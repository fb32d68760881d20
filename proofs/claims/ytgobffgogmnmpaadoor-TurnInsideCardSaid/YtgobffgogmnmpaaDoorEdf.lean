/- Days that are left are filled by the claim that must come first, if they can be filled at all. Conditions: as each theorem says. -/
import Derived.Test.YtgobffgogmnmpaaDoorSum
namespace Go.Proofs.YtgobffgogmnmpaaDoor.Pure

def bump (c : Nat → Nat) (j : Nat) : Nat → Nat := fun i => if i = j then c i + 1 else c i
theorem bump_self (c : Nat → Nat) (j : Nat) : bump c j j = c j + 1 := if_pos rfl
theorem bump_ne (c : Nat → Nat) {i j : Nat} (h : i ≠ j) : bump c j i = c i := if_neg h
theorem bump_comm (c : Nat → Nat) (i j : Nat) : bump (bump c i) j = bump (bump c j) i := by
  funext x; unfold bump; by_cases h1 : x = i <;> by_cases h2 : x = j <;> simp only [h1, h2, if_true, if_false] <;> split <;> simp_all

/-- Claims: driver i has s i of them, claim k from day lo i k to day hi i k; there are n drivers and T days. -/
structure Claims where
  n : Nat
  T : Nat
  s : Nat → Nat
  lo : Nat → Nat → Int
  hi : Nat → Nat → Int
  mono : ∀ i k (d : Int), lo i (k + 1) ≤ d → d ≤ hi i (k + 1) → 0 ≤ d → d < T → hi i k ≤ hi i (k + 1)

/-- Days from d on that give each claim that is left a day of its own. -/
def Comp (C : Claims) : (Nat → Nat) → Nat → List Nat → Prop
  | c, d, [] => d = C.T ∧ ∀ i, i < C.n → c i = C.s i
  | c, d, x :: l => d < C.T ∧ x < C.n ∧ c x < C.s x ∧ C.lo x (c x) ≤ (d : Int) ∧ (d : Int) ≤ C.hi x (c x) ∧ Comp C (bump c x) (d + 1) l
theorem Comp.late {C : Claims} : ∀ (l : List Nat) (c : Nat → Nat) (d : Nat), Comp C c d l → ∀ j, j < C.n → c j < C.s j → (d : Int) ≤ C.hi j (c j) := by
  intro l
  induction l with
  | nil => intro c d ⟨_, h⟩ j hj hc; have := h j hj; omega
  | cons x l ih =>
    intro c d ⟨h1, h2, h3, h4, h5, h6⟩ j hj hc
    by_cases e : j = x
    · rw [e]; exact h5
    · have := ih _ _ h6 j hj (by rw [bump_ne c e]; exact hc)
      rw [bump_ne c e] at this
      omega
/-- The first of the days that are j's given to i. -/
def swap1 (i j : Nat) : List Nat → List Nat
  | [] => []
  | x :: l => if x = j then i :: l else x :: swap1 i j l
theorem Comp.swap {C : Claims} {i j : Nat} (hij : i ≠ j) (hi : i < C.n) (hj : j < C.n) : ∀ (l : List Nat) (c : Nat → Nat) (d : Nat), Comp C (bump c i) d l → c j < C.s j → c i < C.s i →
    C.lo i (c i) ≤ (d : Int) → C.lo j (c j) ≤ (d : Int) → C.hi j (c j) ≤ C.hi i (c i) → Comp C (bump c j) d (swap1 i j l) := by
  intro l
  induction l with
  | nil => intro c d ⟨_, h⟩ hc _ _ _ _; have := h j hj; rw [bump_ne c (fun h => hij h.symm)] at this; omega
  | cons x l ih =>
    intro c d hC hcj hci hlo hlo' hhi
    have hl := Comp.late _ _ _ hC j hj (by rw [bump_ne c (fun h => hij h.symm)]; exact hcj)
    rw [bump_ne c (fun h => hij h.symm)] at hl
    obtain ⟨h1, h2, h3, h4, h5, h6⟩ := hC
    by_cases e : x = j
    · subst e
      rw [show swap1 i x (x :: l) = i :: l from if_pos rfl]
      refine ⟨h1, hi, ?_, ?_, ?_, ?_⟩
      · rw [bump_ne c hij]; exact hci
      · rw [bump_ne c hij]; exact hlo
      · rw [bump_ne c hij]; omega
      · rw [bump_comm]; exact h6
    · rw [show swap1 i j (x :: l) = x :: swap1 i j l from if_neg e]
      by_cases e' : x = i
      · subst e'
        rw [bump_self] at h3 h4 h5
        refine ⟨h1, hi, ?_, ?_, ?_, ?_⟩
        · rw [bump_ne c hij]; exact hci
        · rw [bump_ne c hij]; exact hlo
        · rw [bump_ne c hij]; omega
        · rw [bump_comm]
          refine ih (bump c x) (d + 1) h6 ?_ ?_ ?_ ?_ ?_
          · rw [bump_ne c (fun h => e h.symm)]; exact hcj
          · rw [bump_self]; exact h3
          · rw [bump_self]; omega
          · rw [bump_ne c (fun h => e h.symm)]; omega
          · rw [bump_ne c (fun h => e h.symm), bump_self]; have := C.mono x (c x) d h4 h5 (by omega) (by omega); omega
      · rw [bump_ne c e'] at h3 h4 h5
        refine ⟨h1, h2, ?_, ?_, ?_, ?_⟩
        · rw [bump_ne c e]; exact h3
        · rw [bump_ne c e]; exact h4
        · rw [bump_ne c e]; exact h5
        · rw [bump_comm]
          refine ih (bump c x) (d + 1) (by rw [bump_comm]; exact h6) ?_ ?_ ?_ ?_ ?_
          · rw [bump_ne c (fun h => e h.symm)]; exact hcj
          · rw [bump_ne c (fun h => e' h.symm)]; exact hci
          · rw [bump_ne c (fun h => e' h.symm)]; omega
          · rw [bump_ne c (fun h => e h.symm)]; omega
          · rw [bump_ne c (fun h => e h.symm), bump_ne c (fun h => e' h.symm)]; exact hhi
/-- Can the days from d on be filled? -/
def Fill (C : Claims) (c : Nat → Nat) (d : Nat) : Prop := ∃ l, Comp C c d l
/-- Whom a day may be given to: the claim has begun, and none that has begun must come before it. -/
structure Pick (C : Claims) (c : Nat → Nat) (d : Nat) (j : Nat) : Prop where
  lt : j < C.n
  left : c j < C.s j
  lo : C.lo j (c j) ≤ (d : Int)
  first : ∀ i, i < C.n → c i < C.s i → C.lo i (c i) ≤ (d : Int) → C.hi j (c j) ≤ C.hi i (c i)
theorem Fill.pick {C : Claims} {c : Nat → Nat} {d j : Nat} (p : Pick C c d j) : Fill C c d → Fill C (bump c j) (d + 1) := by
  rintro ⟨l, h⟩
  cases l with
  | nil => have := h.2 j p.lt; have := p.left; omega
  | cons x l =>
    obtain ⟨h1, h2, h3, h4, h5, h6⟩ := h
    by_cases e : x = j
    · rw [← e]; exact ⟨l, h6⟩
    · have := p.lo
      exact ⟨_, Comp.swap e h2 p.lt l c (d + 1) h6 p.left h3 (by omega) (by omega) (p.first x h2 h3 h4)⟩
theorem Fill.unpick {C : Claims} {c : Nat → Nat} {d j : Nat} (hd : d < C.T) (p : Pick C c d j) (hl : (d : Int) ≤ C.hi j (c j)) : Fill C (bump c j) (d + 1) → Fill C c d :=
  fun ⟨l, h⟩ => ⟨j :: l, hd, p.lt, p.left, p.lo, hl, h⟩
theorem Fill.some {C : Claims} {c : Nat → Nat} {d : Nat} (hd : d < C.T) : Fill C c d → ∃ i, i < C.n ∧ c i < C.s i ∧ C.lo i (c i) ≤ (d : Int) := by
  rintro ⟨l, h⟩
  cases l with
  | nil => have := h.1; omega
  | cons x l => exact ⟨x, h.2.1, h.2.2.1, h.2.2.2.1⟩
theorem Fill.late {C : Claims} {c : Nat → Nat} {d : Nat} : Fill C c d → ∀ j, j < C.n → c j < C.s j → (d : Int) ≤ C.hi j (c j) := fun ⟨l, h⟩ => Comp.late l c d h
theorem Fill.end {C : Claims} {c : Nat → Nat} {d : Nat} (hd : d = C.T) (h : ∀ i, i < C.n → c i = C.s i) : Fill C c d := ⟨[], hd, h⟩

/-- Days that fill, day by day: what is chosen first that leaves the rest filled. -/
theorem Comp.cons {C : Claims} {c : Nat → Nat} {d x : Nat} {l : List Nat} : Comp C c d (x :: l) ↔ d < C.T ∧ x < C.n ∧ c x < C.s x ∧ C.lo x (c x) ≤ (d : Int) ∧ (d : Int) ≤ C.hi x (c x) ∧ Comp C (bump c x) (d + 1) l := Iff.rfl
/-- The list that the search for the first round makes. -/
def First (C : Claims) : (Nat → Nat) → Nat → List Nat → Prop
  | _, d, [] => d = C.T
  | c, d, x :: l => d < C.T ∧ x < C.n ∧ c x < C.s x ∧ C.lo x (c x) ≤ (d : Int) ∧ (d : Int) ≤ C.hi x (c x) ∧ Fill C (bump c x) (d + 1) ∧
      (∀ y, y < x → ¬ (c y < C.s y ∧ C.lo y (c y) ≤ (d : Int) ∧ (d : Int) ≤ C.hi y (c y) ∧ Fill C (bump c y) (d + 1))) ∧ First C (bump c x) (d + 1) l
theorem First.comp {C : Claims} : ∀ (l : List Nat) (c : Nat → Nat) (d : Nat), Fill C c d → First C c d l → Comp C c d l := by
  intro l
  induction l with
  | nil =>
    rintro c d ⟨m, hm⟩ h
    cases m with
    | nil => exact hm
    | cons x m => have h0 : d = C.T := h; have := hm.1; omega
  | cons x l ih =>
    rintro c d _ ⟨h1, h2, h3, h4, h5, h6, _, h8⟩
    exact ⟨h1, h2, h3, h4, h5, ih _ _ h6 h8⟩
theorem First.uniq {C : Claims} : ∀ (l m : List Nat) (c : Nat → Nat) (d : Nat), First C c d l → First C c d m → l = m := by
  intro l
  induction l with
  | nil =>
    intro m c d h1 h2
    cases m with
    | nil => rfl
    | cons x m => have h0 : d = C.T := h1; have := h2.1; omega
  | cons x l ih =>
    intro m c d h1 h2
    cases m with
    | nil => have h0 : d = C.T := h2; have := h1.1; omega
    | cons y m =>
      obtain ⟨_, _, a3, a4, a5, a6, a7, a8⟩ := h1
      obtain ⟨_, _, b3, b4, b5, b6, b7, b8⟩ := h2
      have e : x = y := by
        by_cases h : x < y
        · exact absurd ⟨a3, a4, a5, a6⟩ (b7 x h)
        · by_cases h' : y < x
          · exact absurd ⟨b3, b4, b5, b6⟩ (a7 y h')
          · omega
      subst e
      rw [ih m _ _ a8 b8]
/-- Of two ways to fill the days the one that the search makes is not the greater one. -/
theorem First.least {C : Claims} : ∀ (l m : List Nat) (c : Nat → Nat) (d : Nat), First C c d l → Comp C c d m → l = m ∨ ∃ k, k < l.length ∧ (∀ i, i < k → l.getD i 0 = m.getD i 0) ∧ l.getD k 0 < m.getD k 0 := by
  intro l
  induction l with
  | nil =>
    intro m c d h1 h2
    cases m with
    | nil => left; rfl
    | cons x m => have h0 : d = C.T := h1; have := h2.1; omega
  | cons x l ih =>
    intro m c d h1 h2
    cases m with
    | nil => have h0 : d = C.T := h2.1; have := h1.1; omega
    | cons y m =>
      obtain ⟨_, _, a3, a4, a5, a6, a7, a8⟩ := h1
      obtain ⟨_, _, b3, b4, b5, b6⟩ := h2
      by_cases h : y < x
      · exact absurd ⟨b3, b4, b5, m, b6⟩ (a7 y h)
      · by_cases e : x = y
        · subst e
          rcases ih m _ _ a8 b6 with h | ⟨k, k1, k2, k3⟩
          · left; rw [h]
          · right
            refine ⟨k + 1, by simp only [List.length_cons]; omega, fun i hi => ?_, by simpa using k3⟩
            cases i with
            | zero => rfl
            | succ i => simpa using k2 i (by omega)
        · right
          exact ⟨0, by simp, fun i hi => by omega, by show x < y; omega⟩
end Go.Proofs.YtgobffgogmnmpaaDoor.Pure
