/- Determinants along the first row, and the count of branchings by them: each corner's row is the sum of (its own place less a parent's place) over its parents; the determinant is the count T, which takes the first corner into each of its parents. No conditions. -/
import Derived.Test.YtlcgoacmlbeliaaPre
namespace Go.Proofs.Ytlcgoacmlbeliaa.Det
set_option linter.unusedVariables false
set_option linter.unusedSimpArgs false
def sumTo : Nat → (Nat → Int) → Int
  | 0, _ => 0
  | n + 1, f => sumTo n f + f n
theorem sumTo_congr {n : Nat} {f g : Nat → Int} (h : ∀ j, j < n → f j = g j) : sumTo n f = sumTo n g := by
  induction n with
  | zero => rfl
  | succ n ih => simp only [sumTo]; rw [ih (fun j hj => h j (by omega)), h n (by omega)]
theorem sumTo_add (n : Nat) (f g : Nat → Int) : sumTo n (fun j => f j + g j) = sumTo n f + sumTo n g := by
  induction n with
  | zero => rfl
  | succ n ih => simp only [sumTo]; rw [ih]; omega
theorem sumTo_neg (n : Nat) (f : Nat → Int) : sumTo n (fun j => - f j) = - sumTo n f := by
  induction n with
  | zero => rfl
  | succ n ih => simp only [sumTo]; rw [ih]; omega
theorem sumTo_zero (n : Nat) : sumTo n (fun _ => 0) = 0 := by
  induction n with
  | zero => rfl
  | succ n ih => simp only [sumTo]; rw [ih]; rfl
/-- A sum with one place that counts. -/
theorem sumTo_one {n k : Nat} (hk : k < n) (f : Nat → Int) (h : ∀ j, j < n → j ≠ k → f j = 0) : sumTo n f = f k := by
  induction n with
  | zero => omega
  | succ n ih =>
    simp only [sumTo]
    by_cases hkn : k = n
    · subst hkn
      have : sumTo k f = sumTo k (fun _ => 0) := sumTo_congr (fun j hj => h j (by omega) (by omega))
      rw [this, sumTo_zero]; omega
    · rw [ih (by omega) (fun j hj hne => h j (by omega) hne), h n (by omega) (by omega)]; omega
/-- Two places exchanged. -/
theorem sumTo_swap {n k : Nat} (hk : k + 1 < n) (f g : Nat → Int) (h1 : g k = f (k + 1)) (h2 : g (k + 1) = f k) (h : ∀ j, j < n → j ≠ k → j ≠ k + 1 → g j = f j) : sumTo n g = sumTo n f := by
  induction n with
  | zero => omega
  | succ n ih =>
    simp only [sumTo]
    by_cases hkn : k + 1 = n
    · subst hkn
      simp only [sumTo]
      have : sumTo k g = sumTo k f := sumTo_congr (fun j hj => h j (by omega) (by omega) (by omega))
      rw [this, h1, h2]; omega
    · rw [ih (by omega) (fun j hj a b => h j (by omega) a b), h n (by omega) (by omega) (by omega)]
def skip (j c : Nat) : Nat := if c < j then c else c + 1
def minor (M : Nat → Nat → Int) (j : Nat) : Nat → Nat → Int := fun r c => M (r + 1) (skip j c)
def sg (j : Nat) : Int := if j % 2 = 0 then 1 else -1
theorem sg_succ (j : Nat) : sg (j + 1) = - sg j := by
  unfold sg; split <;> split <;> omega
def D : Nat → (Nat → Nat → Int) → Int
  | 0, _ => 1
  | n + 1, M => sumTo (n + 1) (fun j => sg j * M 0 j * D n (minor M j))
theorem skip_lt {j c n : Nat} (hc : c < n) : skip j c < n + 1 := by unfold skip; split <;> omega
theorem D_congr {n : Nat} : ∀ {M N : Nat → Nat → Int}, (∀ r c, r < n → c < n → M r c = N r c) → D n M = D n N := by
  induction n with
  | zero => intros; rfl
  | succ n ih =>
    intro M N h
    simp only [D]
    refine sumTo_congr (fun j hj => ?_)
    rw [h 0 j (by omega) hj, ih (M := minor M j) (N := minor N j) (fun r c hr hc => h _ _ (by omega) (skip_lt hc))]
/-- Linear in a column. -/
theorem D_col {n : Nat} : ∀ {M U V : Nat → Nat → Int} {k : Nat}, k < n → (∀ r, r < n → M r k = U r k + V r k) → (∀ r c, r < n → c < n → c ≠ k → M r c = U r c ∧ M r c = V r c) → D n M = D n U + D n V := by
  induction n with
  | zero => intro M U V k hk; omega
  | succ n ih =>
    intro M U V k hk h1 h2
    simp only [D]
    rw [← sumTo_add]
    refine sumTo_congr (fun j hj => ?_)
    by_cases hjk : j = k
    · subst hjk
      have e1 : D n (minor M j) = D n (minor U j) := D_congr (fun r c hr hc => (h2 _ _ (by omega) (skip_lt hc) (by unfold skip; split <;> omega)).1)
      have e2 : D n (minor M j) = D n (minor V j) := D_congr (fun r c hr hc => (h2 _ _ (by omega) (skip_lt hc) (by unfold skip; split <;> omega)).2)
      rw [← e1, ← e2, h1 0 (by omega)]
      rw [Int.mul_add, Int.add_mul]
    · obtain ⟨a, b⟩ := h2 0 j (by omega) hj hjk
      have := ih (M := minor M j) (U := minor U j) (V := minor V j) (k := if k < j then k else k - 1) (by split <;> omega) (fun r hr => by
        have e : skip j (if k < j then k else k - 1) = k := by unfold skip; (repeat' split) <;> omega
        unfold minor; rw [e]; exact h1 _ (by omega)) (fun r c hr hc hne => h2 _ _ (by omega) (skip_lt hc) (by
        intro e; apply hne; unfold skip at e; split at e <;> split <;> omega))
      rw [this, Int.mul_add, ← a, ← b]
def sw (k c : Nat) : Nat := if c = k then k + 1 else if c = k + 1 then k else c
/-- Two neighbouring columns exchanged. -/
theorem D_swap {n : Nat} : ∀ {M : Nat → Nat → Int} {k : Nat}, k + 1 < n → D n (fun r c => M r (sw k c)) = - D n M := by
  induction n with
  | zero => intro M k hk; omega
  | succ n ih =>
    intro M k hk
    simp only [D]
    rw [← sumTo_neg]
    refine sumTo_swap hk _ _ ?_ ?_ ?_
    · have e1 : sw k k = k + 1 := by unfold sw; (repeat' split) <;> omega
      have e2 : D n (minor (fun r c => M r (sw k c)) k) = D n (minor M (k + 1)) := D_congr (fun r c hr hc => by
        show M (r + 1) (sw k (skip k c)) = M (r + 1) (skip (k + 1) c)
        congr 1; unfold sw skip; (repeat' split) <;> omega)
      simp only [e1, e2, sg_succ]
      rw [Int.neg_mul, Int.neg_mul, Int.neg_neg]
    · have e1 : sw k (k + 1) = k := by unfold sw; (repeat' split) <;> omega
      have e2 : D n (minor (fun r c => M r (sw k c)) (k + 1)) = D n (minor M k) := D_congr (fun r c hr hc => by
        show M (r + 1) (sw k (skip (k + 1) c)) = M (r + 1) (skip k c)
        congr 1; unfold sw skip; (repeat' split) <;> omega)
      simp only [e1, e2, sg_succ]
      rw [Int.neg_mul, Int.neg_mul]
    · intro j hj h1 h2
      have e1 : sw k j = j := by unfold sw; (repeat' split) <;> omega
      have e2 : D n (minor (fun r c => M r (sw k c)) j) = - D n (minor M j) := by
        rw [← ih (M := minor M j) (k := if k < j then k else k - 1) (by split <;> omega)]
        refine D_congr (fun r c hr hc => ?_)
        show M (r + 1) (sw k (skip j c)) = M (r + 1) (skip j (sw (if k < j then k else k - 1) c))
        congr 1; unfold sw skip; (repeat' split) <;> omega
      simp only [e1, e2]
      rw [Int.mul_neg]
/-- The first column moved behind k others. -/
def mv (k c : Nat) : Nat := if c < k then c + 1 else if c = k then 0 else c
theorem D_move {n : Nat} (M : Nat → Nat → Int) : ∀ k, k < n → D n (fun r c => M r (mv k c)) = sg k * D n M
  | 0, _ => by
    have : D n (fun r c => M r (mv 0 c)) = D n M := D_congr (fun r c _ _ => by congr 1; unfold mv; (repeat' split) <;> omega)
    rw [this]; simp [sg]
  | k + 1, hk => by
    have h1 := D_move (n := n) M k (by omega)
    have h2 := D_swap (M := fun r c => M r (mv k c)) (k := k) hk
    rw [sg_succ, Int.neg_mul, ← h1, ← h2]
    refine D_congr (fun r c _ _ => ?_)
    show M r (mv (k + 1) c) = M r (mv k (sw k c))
    congr 1; unfold mv sw; (repeat' split) <;> omega
/-! ### Corners with lists of parents -/
def lsum {α : Type} (f : α → Int) : List α → Int
  | [] => 0
  | x :: l => f x + lsum f l
theorem lsum_congr {α : Type} {f g : α → Int} {l : List α} (h : ∀ x ∈ l, f x = g x) : lsum f l = lsum g l := by
  induction l with
  | nil => rfl
  | cons x l ih => simp only [lsum]; rw [h x (by simp), ih (fun y hy => h y (by simp [hy]))]
theorem lsum_add {α : Type} (f g : α → Int) (l : List α) : lsum (fun x => f x + g x) l = lsum f l + lsum g l := by
  induction l with
  | nil => rfl
  | cons x l ih => simp only [lsum]; rw [ih]; omega
theorem lsum_map {α β : Type} (f : β → Int) (g : α → β) (l : List α) : lsum f (l.map g) = lsum (fun x => f (g x)) l := by
  induction l with
  | nil => rfl
  | cons x l ih => simp only [List.map_cons, lsum]; rw [ih]
theorem sum_lsum {α : Type} (n : Nat) (s d : Nat → Int) (g : Nat → α → Int) (l : List α) :
    sumTo n (fun j => s j * lsum (g j) l * d j) = lsum (fun a => sumTo n (fun j => s j * g j a * d j)) l := by
  induction l with
  | nil =>
    simp only [lsum]
    have : sumTo n (fun j => s j * 0 * d j) = sumTo n (fun _ => 0) := sumTo_congr (fun j _ => by rw [Int.mul_zero, Int.zero_mul])
    rw [this, sumTo_zero]
  | cons x l ih =>
    simp only [lsum]
    rw [← ih, ← sumTo_add]
    exact sumTo_congr (fun j _ => by rw [Int.mul_add, Int.add_mul])
def dl (c x : Nat) : Int := if c + 1 = x then 1 else 0
def mat (P : Nat → List Nat) (r c : Nat) : Int := lsum (fun x => dl c (r + 1) - dl c x) (P (r + 1))
def rel (a x : Nat) : Nat := if x = 1 then a - 1 else x - 1
/-- Corner 1 taken into a: its children are a's, all numbers one less. -/
def con (a : Nat) (P : Nat → List Nat) : Nat → List Nat := fun v => (P (v + 1)).map (rel a)
def T : Nat → (Nat → List Nat) → Nat
  | 0, _ => 1
  | m + 1, P => ((P 1).map (fun a => if a = 1 then 0 else T m (con a P))).sum
theorem sum_dl {n k : Nat} (hk : k < n) (s d : Nat → Int) : sumTo n (fun j => s j * dl j (k + 1) * d j) = s k * d k := by
  rw [sumTo_one hk]
  · simp [dl]
  · intro j _ hne
    have : dl j (k + 1) = 0 := by unfold dl; rw [if_neg (by omega)]
    rw [this, Int.mul_zero, Int.zero_mul]
theorem sum_dl0 (n : Nat) (s d : Nat → Int) : sumTo n (fun j => s j * dl j 0 * d j) = 0 := by
  rw [← sumTo_zero n]
  refine sumTo_congr (fun j _ => ?_)
  have : dl j 0 = 0 := by unfold dl; rw [if_neg (by omega)]
  rw [this, Int.mul_zero, Int.zero_mul]
theorem con_col {a r c : Nat} {P : Nat → List Nat} (_ha : a ≠ 1) (hc : c + 2 ≠ a) : mat (con a P) r c = mat P (r + 1) (c + 1) := by
  unfold mat con
  rw [lsum_map]
  refine lsum_congr (fun x _ => ?_)
  have h1 : dl c (r + 1) = dl (c + 1) (r + 1 + 1) := by unfold dl; split <;> split <;> omega
  have h2 : dl c (rel a x) = dl (c + 1) x := by unfold dl rel; (repeat' split) <;> omega
  rw [h1, h2]
theorem con_at {a r : Nat} {P : Nat → List Nat} : mat (con (a + 2) P) r a = mat P (r + 1) (a + 1) + mat P (r + 1) 0 := by
  unfold mat con
  rw [lsum_map, ← lsum_add]
  refine lsum_congr (fun x _ => ?_)
  unfold dl rel
  (repeat' split) <;> omega
theorem D_T : ∀ (m : Nat) (P : Nat → List Nat), (∀ v, 1 ≤ v → v ≤ m → ∀ x ∈ P v, x ≤ m) → D m (mat P) = (T m P : Int)
  | 0, _, _ => rfl
  | m + 1, P, hP => by
    have ih := D_T m
    have e1 : D (m + 1) (mat P) = lsum (fun a => sumTo (m + 1) (fun j => sg j * (dl j 1 - dl j a) * D m (minor (mat P) j))) (P 1) := by
      rw [← sum_lsum]; rfl
    rw [e1]
    have key : ∀ a ∈ P 1, sumTo (m + 1) (fun j => sg j * (dl j 1 - dl j a) * D m (minor (mat P) j)) = ((if a = 1 then 0 else T m (con a P) : Nat) : Int) := by
      intro a ha
      have hle := hP 1 (by omega) (by omega) a ha
      have e2 : sumTo (m + 1) (fun j => sg j * (dl j 1 - dl j a) * D m (minor (mat P) j)) = D m (minor (mat P) 0) + sumTo (m + 1) (fun j => - (sg j * dl j a * D m (minor (mat P) j))) := by
        have := sum_dl (n := m + 1) (k := 0) (by omega) sg (fun j => D m (minor (mat P) j))
        have h0 : sg 0 = 1 := rfl
        rw [h0, Int.one_mul, Nat.zero_add] at this
        rw [← this, ← sumTo_add]
        refine sumTo_congr (fun j _ => ?_)
        rw [Int.mul_sub, Int.sub_mul]; omega
      rw [e2, sumTo_neg]
      have hcon : a ≠ 1 → ∀ v, 1 ≤ v → v ≤ m → ∀ x ∈ con a P v, x ≤ m := by
        intro hne v h1 h2 x hx
        obtain ⟨y, hy, rfl⟩ := List.mem_map.1 hx
        have := hP (v + 1) (by omega) (by omega) y hy
        unfold rel; split <;> omega
      match a, hle, hcon with
      | 0, _, hcon =>
        rw [sum_dl0, if_neg (by omega), ← ih _ (hcon (by omega))]
        have : D m (minor (mat P) 0) = D m (mat (con 0 P)) := D_congr (fun r c _ _ => by
          rw [con_col (by omega) (by omega)]
          show mat P (r + 1) (skip 0 c) = _
          have : skip 0 c = c + 1 := by unfold skip; split <;> omega
          rw [this])
        rw [this]; omega
      | 1, _, _ =>
        have := sum_dl (n := m + 1) (k := 0) (by omega) sg (fun j => D m (minor (mat P) j))
        have h0 : sg 0 = 1 := rfl
        rw [h0, Int.one_mul] at this
        rw [Nat.zero_add] at this
        rw [this, if_pos rfl]; omega
      | a + 2, hle, hcon =>
        rw [sum_dl (k := a + 1) (by omega), if_neg (by omega), ← ih _ (hcon (by omega))]
        have hV := D_move (n := m) (minor (mat P) (a + 1)) a (by omega)
        have hU := D_col (n := m) (M := mat (con (a + 2) P)) (U := minor (mat P) 0) (V := fun r c => minor (mat P) (a + 1) r (mv a c)) (k := a) (by omega)
          (fun r _ => by
            rw [con_at]
            have x1 : skip 0 a = a + 1 := by unfold skip; split <;> omega
            have x2 : skip (a + 1) (mv a a) = 0 := by unfold skip mv; (repeat' split) <;> omega
            show _ = mat P (r + 1) (skip 0 a) + mat P (r + 1) (skip (a + 1) (mv a a))
            rw [x1, x2])
          (fun r c _ _ hne => by
            rw [con_col (by omega) (by omega)]
            have x1 : skip 0 c = c + 1 := by unfold skip; split <;> omega
            have x2 : skip (a + 1) (mv a c) = c + 1 := by unfold skip mv; (repeat' split) <;> omega
            refine ⟨?_, ?_⟩
            · show _ = mat P (r + 1) (skip 0 c)
              rw [x1]
            · show _ = mat P (r + 1) (skip (a + 1) (mv a c))
              rw [x2])
        rw [hU, hV, sg_succ, Int.neg_mul]; omega
    have : ∀ l : List Nat, (∀ a ∈ l, a ∈ P 1) → lsum (fun a => sumTo (m + 1) (fun j => sg j * (dl j 1 - dl j a) * D m (minor (mat P) j))) l = (((l.map (fun a => if a = 1 then 0 else T m (con a P))).sum : Nat) : Int) := by
      intro l
      induction l with
      | nil => intro _; rfl
      | cons a l ihl =>
        intro hl
        simp only [lsum, List.map_cons, List.sum_cons]
        rw [key a (hl a (by simp)), ihl (fun b hb => hl b (by simp [hb]))]
        omega
    exact this (P 1) (fun a h => h)
end Go.Proofs.Ytlcgoacmlbeliaa.Det
