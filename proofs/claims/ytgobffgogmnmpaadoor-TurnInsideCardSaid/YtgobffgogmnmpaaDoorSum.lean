/- Sums over the first numbers, and that days are shared out fairly at all times (Tijdeman's bound): of days each of which goes to a driver whose next day must come first. Conditions: as each theorem says. -/
namespace Go.Proofs.YtgobffgogmnmpaaDoor.Pure

/-- The sum of f 0, .., f (n - 1). -/
def sm (f : Nat → Int) : Nat → Int
  | 0 => 0
  | n + 1 => sm f n + f n
theorem sm_le {f g : Nat → Int} : ∀ {n : Nat}, (∀ i, i < n → f i ≤ g i) → sm f n ≤ sm g n := by
  intro n
  induction n with
  | zero => intro _; exact Int.le_refl _
  | succ n ih =>
    intro h
    have := ih (fun i hi => h i (by omega))
    have := h n (by omega)
    show sm f n + f n ≤ sm g n + g n
    omega
theorem sm_eq {f g : Nat → Int} {n : Nat} (h : ∀ i, i < n → f i = g i) : sm f n = sm g n :=
  Int.le_antisymm (sm_le fun i hi => Int.le_of_eq (h i hi)) (sm_le fun i hi => Int.le_of_eq (h i hi).symm)
theorem sm_add (f g : Nat → Int) : ∀ n, sm (fun i => f i + g i) n = sm f n + sm g n := by
  intro n
  induction n with
  | zero => rfl
  | succ n ih => simp only [sm] at *; omega
theorem sm_mul (f : Nat → Int) (a : Int) : ∀ n, sm (fun i => a * f i) n = a * sm f n := by
  intro n
  induction n with
  | zero => simp [sm]
  | succ n ih => simp only [sm, ih, Int.mul_add]
theorem sm_const (a : Int) : ∀ n : Nat, sm (fun _ => a) n = (n : Int) * a := by
  intro n
  induction n with
  | zero => simp [sm]
  | succ n ih => simp only [sm, ih]; rw [show ((n + 1 : Nat) : Int) = (n : Int) + 1 by omega, Int.add_mul]; omega
theorem sm_zero (n : Nat) : sm (fun _ => 0) n = 0 := by rw [sm_const]; omega
theorem sm_one (a : Int) (j : Nat) : ∀ n : Nat, sm (fun i => if i = j then a else 0) n = if j < n then a else 0 := by
  intro n
  induction n with
  | zero => rfl
  | succ n ih =>
    simp only [sm, ih]
    by_cases h : j < n
    · rw [if_pos h, if_neg (by omega), if_pos (by omega)]; omega
    · rw [if_neg h]
      by_cases h' : n = j
      · rw [if_pos h', if_pos (by omega)]; omega
      · rw [if_neg h', if_neg (by omega)]; omega
theorem sm_nonneg {f : Nat → Int} {n : Nat} (h : ∀ i, i < n → 0 ≤ f i) : 0 ≤ sm f n := by
  have := sm_le (f := fun _ => 0) (g := f) h
  rw [sm_zero] at this; exact this
theorem sm_mem_le {f : Nat → Int} {j : Nat} : ∀ {n : Nat}, (∀ i, i < n → 0 ≤ f i) → j < n → f j ≤ sm f n := by
  intro n
  induction n with
  | zero => intro _ h; omega
  | succ n ih =>
    intro h hj
    by_cases e : j = n
    · subst e
      have := sm_nonneg (f := f) (n := j) (fun i hi => h i (by omega))
      show f j ≤ sm f j + f j
      omega
    · have := ih (fun i hi => h i (by omega)) (by omega)
      have := h n (by omega)
      show f j ≤ sm f n + f n
      omega

/-- What is owed after some days, times the total: shares s, the total T, and e tells who is called. -/
def lag (s : Nat → Int) (T : Int) (e : Nat → Nat) : Nat → Nat → Int
  | 0, _ => 0
  | t + 1, i => lag s T e t i + s i - if e t = i then T else 0
theorem lag_succ (s : Nat → Int) (T : Int) (e : Nat → Nat) (t i : Nat) : lag s T e (t + 1) i = lag s T e t i + s i - if e t = i then T else 0 := rfl
theorem lag_sum {s : Nat → Int} {T : Int} {e : Nat → Nat} {n : Nat} (hs : sm s n = T) : ∀ t, (∀ τ, τ < t → e τ < n) → sm (lag s T e t) n = 0 := by
  intro t
  induction t with
  | zero => intro _; exact sm_zero n
  | succ t ih =>
    intro h
    have e1 : sm (lag s T e (t + 1)) n = sm (fun i => (lag s T e t i + s i) + (if i = e t then -T else 0)) n := by
      refine sm_eq fun i _ => ?_
      rw [lag_succ]
      by_cases c : e t = i
      · rw [if_pos c, if_pos c.symm]; omega
      · rw [if_neg c, if_neg (fun x => c x.symm)]; omega
    rw [e1, sm_add, sm_add, ih (fun τ hτ => h τ (by omega)), hs, sm_one, if_pos (h t (by omega))]
    omega
theorem lag_run {s : Nat → Int} {T : Int} {e : Nat → Nat} {i a : Nat} : ∀ m : Nat, (∀ τ, a ≤ τ → τ < a + m → e τ ≠ i) → lag s T e (a + m) i = lag s T e a i + s i * (m : Int) := by
  intro m
  induction m with
  | zero => intro _; simp
  | succ m ih =>
    intro h
    rw [← Nat.add_assoc, lag_succ, ih (fun τ h1 h2 => h τ h1 (by omega)), if_neg (h (a + m) (by omega) (by omega)), show ((m + 1 : Nat) : Int) = (m : Int) + 1 by omega, Int.mul_add]
    omega
/-- The last and the first call of a driver in some days. -/
theorem call_last (e : Nat → Nat) (i a : Nat) : ∀ m : Nat, (∀ τ, a ≤ τ → τ < a + m → e τ ≠ i) ∨ ∃ τ, a ≤ τ ∧ τ < a + m ∧ e τ = i ∧ ∀ σ, τ < σ → σ < a + m → e σ ≠ i := by
  intro m
  induction m with
  | zero => left; intro τ h1 h2; omega
  | succ m ih =>
    by_cases h : e (a + m) = i
    · right; exact ⟨a + m, by omega, by omega, h, fun σ h1 h2 => by omega⟩
    · rcases ih with ih | ⟨τ, h1, h2, h3, h4⟩
      · left; intro τ h1 h2
        by_cases c : τ = a + m
        · rw [c]; exact h
        · exact ih τ h1 (by omega)
      · right; refine ⟨τ, h1, by omega, h3, fun σ h5 h6 => ?_⟩
        by_cases c : σ = a + m
        · rw [c]; exact h
        · exact h4 σ h5 (by omega)
theorem call_first (e : Nat → Nat) (i a : Nat) : ∀ m : Nat, (∀ τ, a ≤ τ → τ < a + m → e τ ≠ i) ∨ ∃ τ, a ≤ τ ∧ τ < a + m ∧ e τ = i ∧ ∀ σ, a ≤ σ → σ < τ → e σ ≠ i := by
  intro m
  induction m with
  | zero => left; intro τ h1 h2; omega
  | succ m ih =>
    rcases ih with ih | ⟨τ, h1, h2, h3, h4⟩
    · by_cases h : e (a + m) = i
      · right; exact ⟨a + m, by omega, by omega, h, fun σ h1 h2 => ih σ h1 h2⟩
      · left; intro τ h1 h2
        by_cases c : τ = a + m
        · rw [c]; exact h
        · exact ih τ h1 (by omega)
    · right; exact ⟨τ, h1, by omega, h3, h4⟩
theorem last_such (P : Nat → Prop) : ∀ t : Nat, (∀ τ, τ < t → ¬ P τ) ∨ ∃ τ, τ < t ∧ P τ ∧ ∀ σ, τ < σ → σ < t → ¬ P σ := by
  intro t
  induction t with
  | zero => left; intro τ h; omega
  | succ t ih =>
    by_cases h : P t
    · right; exact ⟨t, by omega, h, fun σ h1 h2 => by omega⟩
    · rcases ih with ih | ⟨τ, h1, h2, h3⟩
      · left; intro τ h1
        by_cases c : τ = t
        · rw [c]; exact h
        · exact ih τ (by omega)
      · right; refine ⟨τ, by omega, h2, fun σ h4 h5 => ?_⟩
        by_cases c : σ = t
        · rw [c]; exact h
        · exact h3 σ h4 (by omega)

/-- Who is called on a day whose dues are y (what is owed before the call, the day's due added): of those who may be called the one whose next day must come first. d is 2 n - 2. -/
structure FairPick (s : Nat → Int) (T d : Int) (n : Nat) (y : Nat → Int) (j : Nat) : Prop where
  lt : j < n
  may : T ≤ d * y j
  first : ∀ i, i < n → T ≤ d * y i → ((d - 1) * T - d * y j) * s i ≤ ((d - 1) * T - d * y i) * s j
/-- Somebody may be called. -/
theorem some_may {T : Int} {n : Nat} {y : Nat → Int} (hn : 2 ≤ n) (hT : 0 < T) (hy : sm y n = T) : ∃ i, i < n ∧ T ≤ (2 * (n : Int) - 2) * y i := by
  by_cases h : ∃ i, i < n ∧ T ≤ (2 * (n : Int) - 2) * y i
  · exact h
  · have h1 : sm (fun i => (2 * (n : Int) - 2) * y i) n ≤ sm (fun _ => T - 1) n := sm_le fun i hi => by
      have : ¬ T ≤ (2 * (n : Int) - 2) * y i := fun c => h ⟨i, hi, c⟩
      omega
    rw [sm_mul, sm_const, hy] at h1
    have e1 : (2 * (n : Int) - 2) * T = (n : Int) * T + ((n : Int) - 2) * T := by rw [← Int.add_mul]; congr 1; omega
    have e2 : 0 ≤ ((n : Int) - 2) * T := Int.mul_nonneg (by omega) (by omega)
    have e3 : (n : Int) * (T - 1) = (n : Int) * T - n := by rw [Int.mul_sub]; omega
    omega

/-- Tijdeman: nobody's count is away from what is due by more than 1 - 1 / (2 n - 2). -/
theorem tijdeman {s : Nat → Int} {T : Int} {n : Nat} {e : Nat → Nat} {M : Nat} (hn : 2 ≤ n) (hs : ∀ i, i < n → 0 < s i) (hT : sm s n = T)
    (hp : ∀ t, t < M → FairPick s T (2 * (n : Int) - 2) n (fun i => lag s T e t i + s i) (e t)) :
    ∀ t, t ≤ M → ∀ i, i < n → -((2 * (n : Int) - 2 - 1) * T) ≤ (2 * (n : Int) - 2) * lag s T e t i ∧ (2 * (n : Int) - 2) * lag s T e t i ≤ (2 * (n : Int) - 2 - 1) * T := by
  have hT0 : 0 < T := by
    rw [← hT]
    have := sm_mem_le (f := s) (n := n) (j := 0) (fun i hi => Int.le_of_lt (hs i hi)) (by omega)
    have := hs 0 (by omega)
    omega
  have hlow : ∀ t, t ≤ M → ∀ i, i < n → -((2 * (n : Int) - 2 - 1) * T) ≤ (2 * (n : Int) - 2) * lag s T e t i := by
    intro t
    induction t with
    | zero =>
      intro _ i hi
      have : 0 ≤ (2 * (n : Int) - 2 - 1) * T := Int.mul_nonneg (by omega) (by omega)
      show _ ≤ (2 * (n : Int) - 2) * 0
      omega
    | succ t ih =>
      intro ht i hi
      rw [lag_succ]
      by_cases c : e t = i
      · have := (hp t (by omega)).may
        simp only [c] at this
        rw [if_pos c, Int.mul_sub, Int.sub_mul (2 * (n : Int) - 2)]
        omega
      · have h1 := ih (by omega) i hi
        have h2 : 0 ≤ (2 * (n : Int) - 2) * s i := Int.mul_nonneg (by omega) (Int.le_of_lt (hs i hi))
        rw [if_neg c, Int.sub_zero, Int.mul_add]
        omega
  intro t ht i0 hi0
  refine ⟨hlow t ht i0 hi0, Int.not_lt.1 fun hbad => ?_⟩
  generalize hd : (2 * (n : Int) - 2) = d at *
  have hd2 : 2 ≤ d := by omega
  have hdT : 0 ≤ d * T := Int.mul_nonneg (by omega) (by omega)
  have e1 : (d - 1) * T = d * T - T := by rw [Int.sub_mul]; omega
  have hen : ∀ τ, τ < t → e τ < n := fun τ h => (hp τ (by omega)).lt
  have hdn : (n : Int) * (2 * T) = d * T + 2 * T := by rw [← hd, Int.sub_mul, Int.mul_assoc, Int.mul_comm 2, Int.mul_comm 2, Int.mul_assoc, Int.mul_comm T 2]; omega
  -- the day's pick could wait until t
  rcases last_such (fun τ => d * (lag s T e τ (e τ) + s (e τ)) + d * (s (e τ) * ((t - τ - 1 : Nat) : Int)) ≤ (d - 1) * T) t with hall | ⟨a, hat, hPa, hall⟩
  · -- no day's pick could wait
    have hfin : ∀ i, i < n → (if i = i0 then d * T - T + T else 0) + -T + (if i = i0 then 1 else 0) ≤ d * lag s T e t i := by
      intro i hi
      have hsi := hs i hi
      by_cases c0 : i = i0
      · subst c0; rw [if_pos rfl, if_pos rfl]; omega
      · rw [if_neg c0, if_neg c0]
        rcases call_last e i 0 t with hno | ⟨τ, _, h2, h3, h4⟩
        · have := lag_run (s := s) (T := T) (e := e) (i := i) (a := 0) t hno
          rw [Nat.zero_add] at this
          rw [this]
          have h0 : 0 ≤ d * (0 + s i * (t : Int)) := Int.mul_nonneg (by omega) (by have := Int.mul_nonneg (Int.le_of_lt hsi) (show (0 : Int) ≤ t by omega); omega)
          show _ ≤ d * (0 + s i * (t : Int))
          omega
        · rw [Nat.zero_add] at h2 h4
          have hP := hall τ h2
          rw [h3] at hP
          have hr := lag_run (s := s) (T := T) (e := e) (i := i) (a := τ + 1) (t - τ - 1) (fun σ h5 h6 => h4 σ (by omega) (by omega))
          rw [show τ + 1 + (t - τ - 1) = t by omega, lag_succ, if_pos h3] at hr
          rw [hr, Int.mul_add, Int.mul_sub]
          omega
    have h1 := sm_le hfin
    rw [sm_mul, lag_sum hT t hen, sm_add, sm_add, sm_one, sm_one, sm_const, if_pos hi0, if_pos hi0] at h1
    have h2 : 0 ≤ ((n : Int) - 2) * T := Int.mul_nonneg (by omega) (by omega)
    rw [Int.sub_mul] at h2
    have h3 : (n : Int) * -T = -((n : Int) * T) := Int.mul_neg _ _
    have h4 : (n : Int) * (2 * T) = 2 * ((n : Int) * T) := by rw [Int.mul_left_comm]
    omega
  · obtain ⟨j, hj⟩ : ∃ j, j = e a := ⟨_, rfl⟩
    rw [← hj] at hPa
    have pk := hp a (by omega)
    rw [← hj] at pk
    have hjn := pk.lt
    have hsj := hs j hjn
    have hm : a + 1 + (t - a - 1) = t := by omega
    generalize hmm : ((t - a - 1 : Nat) : Int) = m at hPa
    have hm0 : 0 ≤ m := by omega
    -- j is not called again, and is not i0
    have hjno : ∀ τ, a + 1 ≤ τ → τ < a + 1 + (t - a - 1) → e τ ≠ j := by
      rcases call_first e j (a + 1) (t - a - 1) with h | ⟨τ, h1, h2, h3, h4⟩
      · exact h
      · exfalso
        have hP := hall τ (by omega) (by omega)
        rw [h3] at hP
        have hr := lag_run (s := s) (T := T) (e := e) (i := j) (a := a + 1) (τ - (a + 1)) (fun σ h5 h6 => h4 σ h5 (by omega))
        rw [show a + 1 + (τ - (a + 1)) = τ by omega, lag_succ, if_pos hj.symm] at hr
        rw [hr] at hP
        apply hP
        have e2 : ((τ - (a + 1) : Nat) : Int) = m - ((t - τ - 1 : Nat) : Int) - 1 := by omega
        rw [e2]
        have e3 : s j * (m - ((t - τ - 1 : Nat) : Int) - 1) = s j * m - s j * ((t - τ - 1 : Nat) : Int) - s j := by rw [Int.mul_sub, Int.mul_sub]; omega
        rw [e3]
        have e4 : d * (lag s T e a j + s j - T + (s j * m - s j * ((t - τ - 1 : Nat) : Int) - s j) + s j) + d * (s j * ((t - τ - 1 : Nat) : Int)) = (d * (lag s T e a j + s j) + d * (s j * m)) - d * T := by
          rw [← Int.mul_add d, ← Int.mul_add d, ← Int.mul_sub d]; congr 1; omega
        rw [e4]; omega
    have hjt := lag_run (s := s) (T := T) (e := e) (i := j) (a := a + 1) (t - a - 1) hjno
    rw [hm, hmm] at hjt
    have hji0 : j ≠ i0 := by
      intro h
      rw [← h, hjt, lag_succ, if_pos hj.symm] at hbad
      have : d * (lag s T e a j + s j - T + s j * m) = (d * (lag s T e a j + s j) + d * (s j * m)) - d * T := by
        rw [← Int.mul_add d, ← Int.mul_sub d]; congr 1; omega
      omega
    -- who has a job that cannot wait until t could not be called on day a
    have hnot : ∀ i, i < n → i ≠ j → (d - 1) * T < d * (lag s T e a i + s i) + d * (s i * m) → d * lag s T e (a + 1) i < T := by
      intro i hi hij hlate
      rw [lag_succ, if_neg (by rw [← hj]; exact fun h => hij h.symm), Int.sub_zero]
      refine Int.not_le.1 fun hmay => ?_
      have hf := pk.first i hi hmay
      have hsi := hs i hi
      have h1 : d * (s j * m) ≤ (d - 1) * T - d * (lag s T e a j + s j) := by omega
      have h2 : d * (s j * m) * s i ≤ ((d - 1) * T - d * (lag s T e a j + s j)) * s i := Int.mul_le_mul_of_nonneg_right h1 (Int.le_of_lt hsi)
      have h3 : ((d - 1) * T - d * (lag s T e a i + s i)) * s j < d * (s i * m) * s j := Int.mul_lt_mul_of_pos_right (by omega) hsj
      have h4 : d * (s i * m) * s j = d * (s j * m) * s i := by
        rw [Int.mul_assoc d, Int.mul_assoc d, Int.mul_right_comm (s i) m (s j), Int.mul_right_comm (s j) m (s i), Int.mul_comm (s i) (s j)]
      omega
    have hfin : ∀ i, i < n → ((if i = i0 then d * T + 1 else 0) + -(2 * T)) + (if i = j then 2 * T else 0) ≤ d * (lag s T e t i + -(lag s T e (a + 1) i)) := by
      intro i hi
      have hsi := hs i hi
      by_cases cj : i = j
      · subst cj
        rw [if_neg hji0, if_pos rfl, hjt]
        have : 0 ≤ d * (s i * m) := Int.mul_nonneg (by omega) (Int.mul_nonneg (by omega) hm0)
        rw [show lag s T e (a + 1) i + s i * m + -(lag s T e (a + 1) i) = s i * m by omega]
        omega
      · rw [if_neg cj]
        have hea : e a ≠ i := by rw [← hj]; exact fun h => cj h.symm
        have hsucc : lag s T e (a + 1) i = lag s T e a i + s i := by rw [lag_succ, if_neg hea, Int.sub_zero]
        rcases call_first e i (a + 1) (t - a - 1) with hno | ⟨τ, h1, h2, h3, h4⟩
        · have hr := lag_run (s := s) (T := T) (e := e) (i := i) (a := a + 1) (t - a - 1) hno
          rw [hm, hmm] at hr
          by_cases c0 : i = i0
          · subst c0
            rw [if_pos rfl]
            have hn1 := hnot i hi cj (by rw [hr, hsucc, Int.mul_add] at hbad; exact hbad)
            rw [Int.mul_add, Int.mul_neg]
            omega
          · rw [if_neg c0, hr, show lag s T e (a + 1) i + s i * m + -(lag s T e (a + 1) i) = s i * m by omega]
            have : 0 ≤ d * (s i * m) := Int.mul_nonneg (by omega) (Int.mul_nonneg (by omega) hm0)
            omega
        · have hP := hall τ (by omega) (by omega)
          rw [h3] at hP
          have hr := lag_run (s := s) (T := T) (e := e) (i := i) (a := a + 1) (τ - (a + 1)) (fun σ h5 h6 => h4 σ h5 (by omega))
          rw [show a + 1 + (τ - (a + 1)) = τ by omega, hsucc] at hr
          have hn1 := hnot i hi cj (by
            rw [hr] at hP
            have e2 : ((τ - (a + 1) : Nat) : Int) = m - ((t - τ - 1 : Nat) : Int) - 1 := by omega
            rw [e2] at hP
            have e3 : s i * (m - ((t - τ - 1 : Nat) : Int) - 1) = s i * m - s i * ((t - τ - 1 : Nat) : Int) - s i := by rw [Int.mul_sub, Int.mul_sub]; omega
            rw [e3] at hP
            have e4 : d * (lag s T e a i + s i + (s i * m - s i * ((t - τ - 1 : Nat) : Int) - s i) + s i) + d * (s i * ((t - τ - 1 : Nat) : Int)) = d * (lag s T e a i + s i) + d * (s i * m) := by
              rw [← Int.mul_add d, ← Int.mul_add d]; congr 1; omega
            rw [e4] at hP; omega)
          rw [Int.mul_add, Int.mul_neg]
          by_cases c0 : i = i0
          · subst c0; rw [if_pos rfl]; omega
          · rw [if_neg c0]
            rcases call_last e i (a + 1) (t - a - 1) with hno | ⟨ρ, g1, g2, g3, g4⟩
            · exact absurd h3 (hno τ h1 h2)
            · have hP2 := hall ρ (by omega) (by omega)
              rw [g3] at hP2
              have hr2 := lag_run (s := s) (T := T) (e := e) (i := i) (a := ρ + 1) (t - ρ - 1) (fun σ h5 h6 => g4 σ (by omega) (by omega))
              rw [show ρ + 1 + (t - ρ - 1) = t by omega, lag_succ, if_pos g3] at hr2
              rw [hr2, Int.mul_add, Int.mul_sub]
              omega
    have h1 := sm_le hfin
    have e5 : sm (fun i => lag s T e t i + -(lag s T e (a + 1) i)) n = 0 := by
      have e6 : sm (fun i => -(lag s T e (a + 1) i)) n = 0 := by
        have : sm (fun i => -(lag s T e (a + 1) i)) n = sm (fun i => (-1) * lag s T e (a + 1) i) n := sm_eq fun i _ => by omega
        rw [this, sm_mul, lag_sum hT (a + 1) (fun τ h => hen τ (by omega))]; omega
      rw [sm_add, e6, lag_sum hT t hen]; omega
    rw [sm_mul, e5, sm_add, sm_add, sm_one, sm_one, sm_const, if_pos hi0, if_pos hjn, Int.mul_neg, hdn] at h1
    omega
end Go.Proofs.YtgobffgogmnmpaaDoor.Pure
