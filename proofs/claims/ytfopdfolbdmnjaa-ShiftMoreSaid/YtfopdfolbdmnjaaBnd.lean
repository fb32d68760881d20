/- Scaling a plan down, and what a plan's size is at least and at most. Conditions: those of the lemmas. -/
import Derived.Test.YtfopdfolbdmnjaaLst
namespace Go.Proofs.Ytfopdfolbdmnjaa.Pure
open Go.RowKit Go.Proofs.Ytfopdfolbdmnjaa.P Go.Proofs.YtfopdfolbdmnjaaW.PrintWords Go.Proofs.YtfopdfolbdmnjaaW.PrintLast Go.Proofs.YtfopdfolbdmnjaaW.PrintMore

theorem div_le {a b l B : Int} (hB : 0 < B) (h : a + l * B ≤ b) : a / B + l ≤ b / B := by
  have h1 := Int.ediv_le_ediv hB h
  rwa [Int.add_mul_ediv_right _ _ (by omega)] at h1
/-- A plan of B times the needs whose size B divides makes one of the needs. -/
theorem can_div {l : List Int} {t : Nat} {B S : Int} (hB : 0 < B) : Can l t B (S * B) [] → Can l t 1 S [] := by
  intro ⟨y, c, _⟩
  refine ⟨fun v => y v / B, ⟨?_, ?_, ?_, ?_⟩, fun j hj => absurd hj (Nat.not_lt_zero _)⟩
  · have h1 := c.size
    show y l.length / B = y 0 / B + S
    rw [h1, Int.add_mul_ediv_right _ _ (by omega)]
  · intro h hl
    exact Int.ediv_le_ediv hB (c.up h hl)
  · intro h hl ht
    have h1 := div_le hB (c.low h hl ht)
    show y (h + 1 - t) / B + l.getD h 0 * 1 ≤ y (h + 1) / B
    rw [Int.mul_one]; exact h1
  · intro h hl ht
    have h2 := c.wrap h hl ht
    have h1 := div_le (l := l.getD h 0 - S) hB (show y (l.length + (h + 1) - t) + (l.getD h 0 - S) * B ≤ y (h + 1) by rw [Int.sub_mul]; omega)
    show y (l.length + (h + 1) - t) / B + l.getD h 0 * 1 - S ≤ y (h + 1) / B
    rw [Int.mul_one]; omega
theorem can_need {l : List Int} {t : Nat} {T S : Int} (tn : t ≤ l.length) (h : Can l t T S []) : ∀ i, i < l.length → l.getD i 0 * T ≤ S := by
  intro i hi
  obtain ⟨y, c, _⟩ := h
  have h0 := c.size
  have h1 := c.le (show i + 1 ≤ l.length by omega) (Nat.le_refl _)
  by_cases ht : t ≤ i + 1
  · have h2 := c.low i hi ht
    have h3 := c.le (Nat.zero_le (i + 1 - t)) (by omega)
    omega
  · have h2 := c.wrap i hi (by omega)
    have h3 := c.le (show i + 1 ≤ l.length + (i + 1) - t by omega) (by omega)
    omega
theorem total_add (f : Nat → Int) (a : Nat) : ∀ b, total f (a + b) = total f a + total (fun i => f (a + i)) b := by
  intro b
  induction b with
  | zero => show total f a = total f a + 0; omega
  | succ b ih =>
    show total f (a + b) + f (a + b) = total f a + (total (fun i => f (a + i)) b + f (a + b))
    omega
theorem total_congr {f g : Nat → Int} : ∀ n, (∀ i, i < n → f i = g i) → total f n = total g n := by
  intro n
  induction n with
  | zero => intro _; rfl
  | succ n ih => intro h; show total f n + f n = total g n + g n; rw [ih (fun i hi => h i (by omega)), h n (by omega)]
theorem total_sub (f g : Nat → Int) : ∀ n, total (fun i => f i - g i) n = total f n - total g n := by
  intro n
  induction n with
  | zero => rfl
  | succ n ih => show total (fun i => f i - g i) n + (f n - g n) = (total f n + f n) - (total g n + g n); omega
theorem total_const (c : Int) : ∀ n : Nat, total (fun _ => c) n = c * n := by
  intro n
  induction n with
  | zero => show (0 : Int) = _; simp
  | succ n ih =>
    show total (fun _ => c) n + c = c * ((n + 1 : Nat) : Int)
    rw [ih, Int.natCast_add, Int.mul_add]; simp
theorem total_shift (y : Nat → Int) : ∀ n, total (fun h => y (h + 1)) n = total y n + y n - y 0 := by
  intro n
  induction n with
  | zero => show (0 : Int) = 0 + y 0 - y 0; omega
  | succ n ih => show total (fun h => y (h + 1)) n + y (n + 1) = total y n + y n + y (n + 1) - y 0; omega
/-- Where the shift that covers the hour h as its last begins. -/
def src (n t h : Nat) : Nat := if t ≤ h + 1 then h + 1 - t else n + (h + 1) - t
theorem total_src (y : Nat → Int) (n t : Nat) (t1 : 1 ≤ t) (tn : t ≤ n) : total (fun h => y (src n t h)) n = total y n := by
  have e1 := total_add (fun h => y (src n t h)) (t - 1) (n + 1 - t)
  rw [show t - 1 + (n + 1 - t) = n by omega] at e1
  have e2 : total (fun h => y (src n t h)) (t - 1) = total (fun i => y (n + 1 - t + i)) (t - 1) := total_congr _ fun i hi => by
    show y (src n t i) = _
    rw [show src n t i = n + 1 - t + i by unfold src; rw [if_neg (by omega)]; omega]
  have e3 : total (fun i => y (src n t (t - 1 + i))) (n + 1 - t) = total y (n + 1 - t) := total_congr _ fun i hi => by
    show y (src n t (t - 1 + i)) = _
    rw [show src n t (t - 1 + i) = i by unfold src; rw [if_pos (by omega)]; omega]
  have e4 := total_add y (n + 1 - t) (t - 1)
  rw [show n + 1 - t + (t - 1) = n by omega] at e4
  omega
/-- A shift of t hours covers t needs: the sum of the needs is at most t times the size. -/
theorem can_sum {l : List Int} {t : Nat} {T S : Int} (t1 : 1 ≤ t) (tn : t ≤ l.length) (h : Can l t T S []) : needSum l T l.length ≤ S * t := by
  obtain ⟨y, c, _⟩ := h
  have h1 : needSum l T l.length ≤ total (fun h => (y (h + 1) - y (src l.length t h)) - (fun h => if h < t - 1 then -S else 0) h) l.length := by
    apply total_le
    intro h hh
    show l.getD h 0 * T ≤ (y (h + 1) - y (src l.length t h)) - (if h < t - 1 then -S else 0)
    unfold src
    by_cases ht : t ≤ h + 1
    · rw [if_pos ht, if_neg (by omega)]; have := c.low h hh ht; omega
    · rw [if_neg ht, if_pos (by omega)]; have := c.wrap h hh (by omega); omega
  rw [total_sub, total_sub, total_shift, total_src y _ _ t1 tn] at h1
  have h2 := total_add (fun h => if h < t - 1 then -S else 0) (t - 1) (l.length + 1 - t)
  rw [show t - 1 + (l.length + 1 - t) = l.length by omega] at h2
  have h3 : total (fun h => if h < t - 1 then -S else 0) (t - 1) = -S * ((t - 1 : Nat) : Int) := by
    rw [← total_const]; exact total_congr _ fun i hi => if_pos hi
  have h4 : total (fun i => if t - 1 + i < t - 1 then -S else 0) (l.length + 1 - t) = 0 * ((l.length + 1 - t : Nat) : Int) := by
    rw [← total_const]; exact total_congr _ fun i hi => if_neg (by omega)
  have h5 := c.size
  have h6 : S * (t : Int) = S * ((t - 1 : Nat) : Int) + S := by
    rw [show (t : Int) = ((t - 1 : Nat) : Int) + 1 by omega, Int.mul_add, Int.mul_one]
  rw [Int.zero_mul] at h4
  rw [Int.neg_mul] at h3
  omega
/-- With shifts as long as the day the greatest need is enough. -/
theorem can_whole {l : List Int} {M : Int} (hp : 0 < l.length) (h : ∀ i, i < l.length → l.getD i 0 ≤ M) (hM : 0 ≤ M) : Can l l.length 1 M [] := by
  refine ⟨fun v => if v = 0 then 0 else M, ⟨?_, ?_, ?_, ?_⟩, fun j hj => absurd hj (Nat.not_lt_zero _)⟩
  · show (if l.length = 0 then (0 : Int) else M) = (if 0 = 0 then 0 else M) + M
    rw [if_neg (by omega), if_pos rfl]; omega
  · intro i hi
    show (if i = 0 then (0 : Int) else M) ≤ (if i + 1 = 0 then 0 else M)
    rw [if_neg (show ¬ i + 1 = 0 by omega)]; split <;> omega
  · intro i hi ht
    have := h i hi
    show (if i + 1 - l.length = 0 then (0 : Int) else M) + l.getD i 0 * 1 ≤ (if i + 1 = 0 then 0 else M)
    rw [if_pos (by omega), if_neg (show ¬ i + 1 = 0 by omega)]; omega
  · intro i hi ht
    have := h i hi
    show (if l.length + (i + 1) - l.length = 0 then (0 : Int) else M) + l.getD i 0 * 1 - M ≤ (if i + 1 = 0 then 0 else M)
    rw [if_neg (by omega), if_neg (show ¬ i + 1 = 0 by omega)]; omega
theorem ceil_le {a t L : Int} (ht : 0 < t) (h : a ≤ L * t) : (a + t - 1) / t ≤ L := by
  have : (a + t - 1) / t < L + 1 := (Int.ediv_lt_iff_lt_mul ht).2 (by rw [Int.add_mul]; omega)
  omega
theorem ceil_ge {a t L : Int} (ht : 0 < t) (h : (L - 1) * t < a) : L ≤ (a + t - 1) / t :=
  (Int.le_ediv_iff_mul_le ht).2 (by rw [Int.sub_mul] at h; omega)
end Go.Proofs.Ytfopdfolbdmnjaa.Pure
