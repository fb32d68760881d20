/- Proofs lie below plans, and the best proof meets the best ratio. Conditions: one to twelve hours, needs of 0 to 50. -/
import Derived.Test.YtfopdfolbdmnjaaGhost
import Derived.Test.YtfopdfolbdmnjaaBnd
namespace Go.Proofs.Ytfopdfolbdmnjaa.Pure
open Go.RowKit Go.Proofs.Ytfopdfolbdmnjaa.P Go.Proofs.YtfopdfolbdmnjaaW.PrintWords Go.Proofs.YtfopdfolbdmnjaaW.PrintLast Go.Proofs.YtfopdfolbdmnjaaW.PrintMore

theorem tel_ind (y : Nat → Int) (a b : Nat) (hab : a ≤ b) : ∀ m, total (fun s => (y (s + 1) - y s) * (if a ≤ s ∧ s < b then 1 else 0)) m = if m ≤ a then 0 else if m ≤ b then y m - y a else y b - y a := by
  intro m
  induction m with
  | zero => show (0 : Int) = _; rw [if_pos (Nat.zero_le _)]
  | succ m ih =>
    show total (fun s => (y (s + 1) - y s) * (if a ≤ s ∧ s < b then 1 else 0)) m + (y (m + 1) - y m) * (if a ≤ m ∧ m < b then 1 else 0) = _
    rw [ih]
    by_cases h1 : m + 1 ≤ a
    · rw [if_pos (show m ≤ a by omega), if_pos h1, if_neg (by omega)]; omega
    · by_cases h2 : m ≤ a
      · obtain rfl : m = a := by omega
        rw [if_pos (Nat.le_refl m), if_neg h1]
        by_cases h3 : m < b
        · rw [if_pos ⟨Nat.le_refl m, h3⟩, if_pos (show m + 1 ≤ b by omega)]; omega
        · obtain rfl : m = b := by omega
          rw [if_neg (by omega), if_neg (by omega)]; omega
      · rw [if_neg h2, if_neg h1]
        by_cases h3 : m + 1 ≤ b
        · rw [if_pos (show m ≤ b by omega), if_pos h3, if_pos ⟨by omega, by omega⟩]; omega
        · rw [if_neg h3, if_neg (show ¬ (a ≤ m ∧ m < b) by omega)]
          by_cases h4 : m ≤ b
          · obtain rfl : m = b := by omega
            rw [if_pos h4]; omega
          · rw [if_neg h4]; omega
/-- How much of the plan covers h. -/
def cover (n t : Nat) (y : Nat → Int) (h : Nat) : Int := total (fun s => (y (s + 1) - y s) * cv n t s h) n
theorem cover_low {n t h : Nat} (y : Nat → Int) (t1 : 1 ≤ t) (hh : h < n) (ht : t ≤ h + 1) : cover n t y h = y (h + 1) - y (h + 1 - t) := by
  unfold cover
  rw [total_congr (g := fun s => (y (s + 1) - y s) * (if h + 1 - t ≤ s ∧ s < h + 1 then 1 else 0)) n (fun s hs => by
    rw [cv_eq hs hh]; congr 1; repeat' split
    all_goals omega), tel_ind y _ _ (by omega), if_neg (by omega)]
  by_cases e : n ≤ h + 1
  · obtain rfl : n = h + 1 := by omega
    rw [if_pos e]
  · rw [if_neg e]
theorem cover_wrap {n t h : Nat} (y : Nat → Int) (hh : h < n) (ht : h + 1 < t) (tn : t ≤ n) : cover n t y h = y (h + 1) - y (n + (h + 1) - t) + (y n - y 0) := by
  unfold cover
  have e1 : total (fun s => (y (s + 1) - y s) * cv n t s h) n = total (fun s => (y (s + 1) - y s) * (if 0 ≤ s ∧ s < h + 1 then 1 else 0) - (fun s => -((y (s + 1) - y s) * (if n + (h + 1) - t ≤ s ∧ s < n then 1 else 0))) s) n := total_congr n fun s hs => by
    rw [cv_eq hs hh]
    show _ = (y (s + 1) - y s) * (if 0 ≤ s ∧ s < h + 1 then 1 else 0) - -((y (s + 1) - y s) * (if n + (h + 1) - t ≤ s ∧ s < n then 1 else 0))
    by_cases c : s ≤ h
    · rw [if_pos c, if_pos (by omega), if_pos (show 0 ≤ s ∧ s < h + 1 by omega), if_neg (show ¬ (n + (h + 1) - t ≤ s ∧ s < n) by omega)]; omega
    · rw [if_neg c, if_neg (show ¬ (0 ≤ s ∧ s < h + 1) by omega)]
      by_cases c2 : h + n - s < t
      · rw [if_pos c2, if_pos (by omega)]; omega
      · rw [if_neg c2, if_neg (by omega)]; omega
  have e2 : total (fun s => -((y (s + 1) - y s) * (if n + (h + 1) - t ≤ s ∧ s < n then 1 else 0))) n = -total (fun s => (y (s + 1) - y s) * (if n + (h + 1) - t ≤ s ∧ s < n then 1 else 0)) n := by
    have : ∀ (f : Nat → Int) m, total (fun s => - f s) m = - total f m := by
      intro f m
      induction m with
      | zero => rfl
      | succ m ih => show total (fun s => - f s) m + - f m = -(total f m + f m); omega
    exact this _ n
  rw [e1, total_sub, e2, tel_ind y 0 (h + 1) (by omega), tel_ind y (n + (h + 1) - t) n (by omega), if_neg (show ¬ n ≤ 0 by omega), if_neg (show ¬ n ≤ n + (h + 1) - t by omega), if_pos (Nat.le_refl n)]
  by_cases e : n ≤ h + 1
  · omega
  · rw [if_neg e]; omega
theorem need_cover {l : List Int} {t : Nat} {T S : Int} {y : Nat → Int} (c : Clock l t T S y) (t1 : 1 ≤ t) (tn : t ≤ l.length) {h : Nat} (hh : h < l.length) : l.getD h 0 * T ≤ cover l.length t y h := by
  by_cases ht : t ≤ h + 1
  · rw [cover_low y t1 hh ht]; have := c.low h hh ht; omega
  · rw [cover_wrap y hh (by omega) tn]; have := c.wrap h hh (by omega); have := c.size; omega
def csumc (n t : Nat) (y : Nat → Int) : List Int → Int
  | [] => 0
  | h :: r => cover n t y h.toNat + csumc n t y r
theorem csumc_eq (n t : Nat) (y : Nat → Int) : ∀ hs, csumc n t y hs = total (fun s => (y (s + 1) - y s) * csum n t s hs) n := by
  intro hs
  induction hs with
  | nil =>
    show (0 : Int) = _
    rw [total_congr (g := fun _ => 0) n (fun s _ => by show _ * (0 : Int) = 0; omega), total_const]; omega
  | cons h r ih =>
    show cover n t y h.toNat + csumc n t y r = _
    rw [ih]
    unfold cover
    have : ∀ (f g : Nat → Int) m, total f m + total g m = total (fun s => f s + g s) m := by
      intro f g m
      induction m with
      | zero => rfl
      | succ m ih => show (total f m + f m) + (total g m + g m) = total (fun s => f s + g s) m + (f m + g m); omega
    rw [this]
    exact total_congr n fun s _ => by
      show _ = (y (s + 1) - y s) * (cv n t s h.toNat + csum n t s r)
      rw [Int.mul_add]
/-- No plan is smaller than a proof. -/
theorem dual {l : List Int} {t : Nat} {T S W : Int} {hs : List Int} (t1 : 1 ≤ t) (tn : t ≤ l.length) (h : Can l t T S []) (hc : ∀ s, s < l.length → csum l.length t s hs ≤ W) (hh : ∀ x, x ∈ hs → 0 ≤ x ∧ x < (l.length : Int)) : psum l hs * T ≤ S * W := by
  obtain ⟨y, c, _⟩ := h
  have h1 : ∀ hs : List Int, (∀ x, x ∈ hs → 0 ≤ x ∧ x < (l.length : Int)) → psum l hs * T ≤ csumc l.length t y hs := by
    intro hs
    induction hs with
    | nil => intro _; show 0 * T ≤ 0; omega
    | cons x r ih =>
      intro hh
      have h2 := ih (fun z hz => hh z (List.mem_cons_of_mem _ hz))
      have h3 := hh x (List.mem_cons_self ..)
      have h4 := need_cover c t1 tn (show x.toNat < l.length by omega)
      show (l.getD x.toNat 0 + psum l r) * T ≤ cover l.length t y x.toNat + csumc l.length t y r
      rw [Int.add_mul]; omega
  have h2 := h1 hs hh
  rw [csumc_eq] at h2
  have h3 : total (fun s => (y (s + 1) - y s) * csum l.length t s hs) l.length ≤ total (fun s => (y (s + 1) - y s) * W) l.length := total_le _ fun s hs' => Int.mul_le_mul_of_nonneg_left (hc s hs') (by have := c.up s hs'; omega)
  have h4 : ∀ m, total (fun s => (y (s + 1) - y s) * W) m = (y m - y 0) * W := by
    intro m
    induction m with
    | zero => show (0 : Int) = (y 0 - y 0) * W; rw [Int.sub_self, Int.zero_mul]
    | succ m ih =>
      show total (fun s => (y (s + 1) - y s) * W) m + (y (m + 1) - y m) * W = _
      rw [ih, ← Int.add_mul]; congr 1; omega
  rw [h4, show y l.length - y 0 = S by have := c.size; omega] at h3
  omega
theorem psum_le {l : List Int} (hi : ∀ x, x ∈ l → x ≤ 50) (lo : ∀ x, x ∈ l → 0 ≤ x) : ∀ hs : List Int, (∀ x, x ∈ hs → 0 ≤ x ∧ x < (l.length : Int)) → 0 ≤ psum l hs ∧ psum l hs ≤ 50 * (hs.length : Int) := by
  intro hs
  induction hs with
  | nil => intro _; exact ⟨Int.le_refl _, Int.le_refl _⟩
  | cons x r ih =>
    intro hh
    have h2 := ih (fun z hz => hh z (List.mem_cons_of_mem _ hz))
    have h3 := hh x (List.mem_cons_self ..)
    have h4 := hi _ (getD_mem (show x.toNat < l.length by omega))
    have h5 := lo _ (getD_mem (show x.toNat < l.length by omega))
    show 0 ≤ l.getD x.toNat 0 + psum l r ∧ l.getD x.toNat 0 + psum l r ≤ _
    rw [List.length_cons]; omega
theorem cv_nonneg (n t s h : Nat) : 0 ≤ cv n t s h := by unfold cv; split <;> omega
theorem csum_nonneg (n t s : Nat) : ∀ hs, 0 ≤ csum n t s hs := by
  intro hs
  induction hs with
  | nil => exact Int.le_refl _
  | cons x r ih => have := cv_nonneg n t s x.toNat; show 0 ≤ cv n t s x.toNat + csum n t s r; omega
/-- The shift that begins at an hour covers it. -/
theorem csum_pos {n t : Nat} {hs : List Int} (t1 : 1 ≤ t) (hne : hs ≠ []) (hh : ∀ x, x ∈ hs → 0 ≤ x ∧ x < (n : Int)) : ∃ s, s < n ∧ 1 ≤ csum n t s hs := by
  cases hs with
  | nil => exact absurd rfl hne
  | cons x r =>
    have h3 := hh x (List.mem_cons_self ..)
    refine ⟨x.toNat, by omega, ?_⟩
    have h1 : cv n t x.toNat x.toNat = 1 := by rw [cv_eq (by omega) (by omega), if_pos (Nat.le_refl _), if_pos (by omega)]
    have := csum_nonneg n t x.toNat r
    show 1 ≤ cv n t x.toNat x.toNat + csum n t x.toNat r
    omega
theorem Cert.pos {l : List Int} {t : Nat} {T S W : Int} {hs : List Int} (c : Cert l t T S hs W) (hS : 0 ≤ S) (hp : 0 < l.length) (t1 : 1 ≤ t) : 1 ≤ W ∧ hs ≠ [] := by
  have h0 := c.cover 0 hp
  have h1 := csum_nonneg l.length t 0 hs
  have hne : hs ≠ [] := by
    rintro rfl
    have h2 := c.over
    have h3 : 0 ≤ S * W := Int.mul_nonneg hS (by omega)
    have h4 : T * psum l [] = 0 := Int.mul_zero T
    omega
  obtain ⟨s, hs', h2⟩ := csum_pos t1 hne c.hour
  have := c.cover s hs'
  exact ⟨by omega, hne⟩
theorem rearr (a b c d : Int) : a * b * (c * d) = c * a * (d * b) := by
  rw [Int.mul_assoc a b, Int.mul_left_comm b c d, ← Int.mul_assoc a c, Int.mul_comm a c, Int.mul_comm b d]
theorem div12 : ∀ W : Nat, W < 13 → 1 ≤ W → W * (27720 / W) = 27720 := by decide
/-- There is a proof that is met: its need can be had by a plan at its breadth. -/
theorem met {l : List Int} {t : Nat} (g : Good l t) : ∃ (hs : List Int) (W : Nat), 1 ≤ W ∧ W ≤ t ∧ (∀ s, s < l.length → csum l.length t s hs ≤ W) ∧ (∀ x, x ∈ hs → 0 ≤ x ∧ x < (l.length : Int)) ∧ hs.length ≤ 13 ∧ Can l t W (psum l hs) [] := by
  have hl := g.len
  have hp := g.pos
  have ht1 : 1 ≤ t := by have := g.one; omega
  have htn : t ≤ l.length := by have := g.top; omega
  have main : ∀ (d : Nat) (hs : List Int) (W : Nat), 650 * 27720 - psum l hs * ((27720 / W : Nat) : Int) ≤ (d : Int) → 1 ≤ W → W ≤ t → (∀ s, s < l.length → csum l.length t s hs ≤ W) → (∀ x, x ∈ hs → 0 ≤ x ∧ x < (l.length : Int)) → hs.length ≤ 13 →
      ∃ (hs : List Int) (W : Nat), 1 ≤ W ∧ W ≤ t ∧ (∀ s, s < l.length → csum l.length t s hs ≤ W) ∧ (∀ x, x ∈ hs → 0 ≤ x ∧ x < (l.length : Int)) ∧ hs.length ≤ 13 ∧ Can l t W (psum l hs) [] := by
    intro d
    induction d with
    | zero =>
      intro hs W hd h1 h2 h3 h4 h5
      by_cases hc : Can l t W (psum l hs) []
      · exact ⟨hs, W, h1, h2, h3, h4, h5, hc⟩
      · exfalso
        have hps := psum_le g.high g.low hs h4
        obtain ⟨z, V, _, ct⟩ := solve_cert (small_of g (T := W) (S := psum l hs) (by omega) (by omega) (by omega) (by omega)) hc
        obtain ⟨v1, v2⟩ := ct.pos hps.1 hp ht1
        have hps' := psum_le g.high g.low _ ct.hour
        have hlen := ct.len
        have hover := ct.over
        have hV := ct.small
        obtain ⟨V', rfl⟩ : ∃ V' : Nat, V = V' := ⟨V.toNat, by omega⟩
        generalize psum l (thr' z).1 = p' at *
        generalize psum l hs = p at *
        have e1 := div12 W (by omega) h1
        have e2 := div12 V' (by omega) (by omega)
        generalize 27720 / W = q at *
        generalize 27720 / V' = q' at *
        have e1' : (W : Int) * q = 27720 := by rw [← Int.natCast_mul, e1]; rfl
        have e2' : (V' : Int) * q' = 27720 := by rw [← Int.natCast_mul, e2]; rfl
        -- p' q' > p q, p' q' ≤ 650 * 27720
        have hq' : (q' : Int) ≤ 27720 := by
          have : 1 * (q' : Int) ≤ V' * q' := Int.mul_le_mul_of_nonneg_right (by omega) (by omega)
          omega
        have k1 : p' * (q' : Int) ≤ 650 * 27720 := by
          have a1 : p' * (q' : Int) ≤ 650 * q' := Int.mul_le_mul_of_nonneg_right (by omega) (by omega)
          omega
        have k2 : p * (q : Int) < p' * q' := by
          apply Classical.byContradiction
          intro hn
          have a1 : p' * (q' : Int) ≤ p * q := by omega
          have a2 : p' * (q' : Int) * (W * V') ≤ p * q * (W * V') := Int.mul_le_mul_of_nonneg_right a1 (Int.mul_nonneg (by omega) (by omega))
          have a3 : p' * (q' : Int) * (W * V') = W * p' * (V' * q') := rearr ..
          have a4 : p * (q : Int) * (W * V') = p * V' * (W * q) := by rw [Int.mul_comm (W : Int) V', rearr, Int.mul_comm (V' : Int) p]
          rw [a3, a4, e1', e2'] at a2
          omega
        omega
    | succ d ih =>
      intro hs W hd h1 h2 h3 h4 h5
      by_cases hc : Can l t W (psum l hs) []
      · exact ⟨hs, W, h1, h2, h3, h4, h5, hc⟩
      · have hps := psum_le g.high g.low hs h4
        obtain ⟨z, V, _, ct⟩ := solve_cert (small_of g (T := W) (S := psum l hs) (by omega) (by omega) (by omega) (by omega)) hc
        obtain ⟨v1, v2⟩ := ct.pos hps.1 hp ht1
        have hlen := ct.len
        have hover := ct.over
        have hV := ct.small
        obtain ⟨V', rfl⟩ : ∃ V' : Nat, V = V' := ⟨V.toNat, by omega⟩
        refine ih (thr' z).1 V' ?_ (by omega) (by omega) ct.cover ct.hour hlen
        generalize psum l (thr' z).1 = p' at *
        generalize psum l hs = p at *
        have e1 := div12 W (by omega) h1
        have e2 := div12 V' (by omega) (by omega)
        generalize 27720 / W = q at *
        generalize 27720 / V' = q' at *
        have e1' : (W : Int) * q = 27720 := by rw [← Int.natCast_mul, e1]; rfl
        have e2' : (V' : Int) * q' = 27720 := by rw [← Int.natCast_mul, e2]; rfl
        have k2 : p * (q : Int) < p' * q' := by
          apply Classical.byContradiction
          intro hn
          have a1 : p' * (q' : Int) ≤ p * q := by omega
          have a2 : p' * (q' : Int) * (W * V') ≤ p * q * (W * V') := Int.mul_le_mul_of_nonneg_right a1 (Int.mul_nonneg (by omega) (by omega))
          have a3 : p' * (q' : Int) * (W * V') = W * p' * (V' * q') := rearr ..
          have a4 : p * (q : Int) * (W * V') = p * V' * (W * q) := by rw [Int.mul_comm (W : Int) V', rearr, Int.mul_comm (V' : Int) p]
          rw [a3, a4, e1', e2'] at a2
          omega
        omega
  refine main (650 * 27720) [] 1 ?_ (Nat.le_refl _) ht1 (fun s _ => by show (0 : Int) ≤ _; omega) (fun x hx => by cases hx) (by decide)
  show 650 * 27720 - 0 * _ ≤ _
  omega
end Go.Proofs.Ytfopdfolbdmnjaa.Pure
