/- The days can be filled within the windows of a bound exactly if there is a round with a deviation of at most the bound. Conditions: shares of the document, a bound from 0 to 1. -/
import Derived.Test.YtgobffgogmnmpaaDoorPx5
import Derived.Test.YtgobffgogmnmpaaDoorFit
namespace Go.Proofs.YtgobffgogmnmpaaDoor.Pure
open Go.RowKit Go.Proofs.YtgobffgogmnmpaaDoor.P Go.Proofs.YtgobffgogmnmpaaDoorW.PrintWords Go.Proofs.YtgobffgogmnmpaaDoorW.PrintLast Go.Proofs.YtgobffgogmnmpaaDoorW.PrintMore

/-- Counts after some days of a list. -/
def cL : (Nat → Nat) → List Nat → Nat → Nat → Nat
  | c, _, 0 => c
  | c, [], _ + 1 => c
  | c, x :: σ, t + 1 => cL (bump c x) σ t
theorem cL_zero (c : Nat → Nat) (σ : List Nat) : cL c σ 0 = c := by cases σ <;> rfl
theorem cL_succ : ∀ (σ : List Nat) (c : Nat → Nat) (t : Nat), t < σ.length → cL c σ (t + 1) = bump (cL c σ t) (σ.getD t 0) := by
  intro σ
  induction σ with
  | nil => intro c t h; exact absurd h (by simp)
  | cons x σ ih =>
    intro c t h
    cases t with
    | zero => show cL (bump c x) σ 0 = bump c x; exact cL_zero _ _
    | succ t =>
      show cL (bump c x) σ (t + 1) = bump (cL (bump c x) σ t) (σ.getD t 0)
      exact ih _ t (by simpa using h)
def el (σ : List Nat) (t : Nat) : Nat := σ.getD t 0
theorem cL_cnt (σ : List Nat) : ∀ t, t ≤ σ.length → cL (fun _ => 0) σ t = cnt (el σ) t := by
  intro t
  induction t with
  | zero => intro _; exact cL_zero _ _
  | succ t ih => intro h; rw [cL_succ σ _ t (by omega), ih (by omega), cnt_succ]; rfl
/-- Counts that keep the bound p / q after d days. -/
def Ok (l : List Int) (p q : Int) (c : Nat → Nat) (d : Nat) : Prop := ∀ i, i < l.length → sh l i * q * (d : Int) - p * tot l ≤ (c i : Int) * (tot l * q) ∧ (c i : Int) * (tot l * q) ≤ sh l i * q * (d : Int) + p * tot l
section
variable {l : List Int} {p q : Int} {ws : List (List S51)} {g : Good l} {b : Bnd p q} {h : WsIs l p q ws}
theorem cl_in {i k d : Nat} (hi : i < l.length) (hk : (k : Int) < sh l i) (hd : (d : Int) < tot l) : ((cl l p q ws g b h).lo i k ≤ (d : Int) ∧ (d : Int) ≤ (cl l p q ws g b h).hi i k) ↔ PW (sh l i * q) (tot l * q) (p * tot l) ((k + 1 : Nat) : Int) d := by
  rw [cl_lo hi hk, cl_hi hi hk]
  exact (h.win i hi k hk).iff (Int.mul_nonneg (by have := g.low i hi; omega) (by have := b.q1; omega)) (by omega) hd
theorem comp_low : ∀ (σ : List Nat) (c : Nat → Nat) (d : Nat), Comp (cl l p q ws g b h) c d σ → ∀ i, i < l.length → sh l i * q * (d : Int) - p * tot l ≤ (c i : Int) * (tot l * q) := by
  have hT := g.tot_pos
  have hm : 0 ≤ p * tot l := Int.mul_nonneg b.p0 (by omega)
  intro σ
  induction σ with
  | nil =>
    intro c d ⟨h1, h2⟩ i hi
    have e1 := cl_T (g := g) (b := b) (h := h)
    have e2 := cl_s (g := g) (b := b) (h := h) hi
    rw [← h1] at e1
    rw [← h2 i hi] at e2
    rw [e2, e1, Int.mul_assoc, Int.mul_comm q]
    omega
  | cons x σ ih =>
    intro c d ⟨h1, h2, h3, h4, h5, h6⟩ i hi
    have e1 := cl_T (g := g) (b := b) (h := h)
    by_cases e : i = x
    · subst e
      have e2 := cl_s (g := g) (b := b) (h := h) hi
      have := ((cl_in hi (by omega) (by omega)).1 ⟨h4, h5⟩).2
      rw [show ((c i + 1 : Nat) : Int) - 1 = (c i : Int) by omega] at this
      exact this
    · have := ih _ _ h6 i hi
      rw [bump_ne c e] at this
      have e3 : sh l i * q * ((d + 1 : Nat) : Int) = sh l i * q * (d : Int) + sh l i * q := by rw [show ((d + 1 : Nat) : Int) = (d : Int) + 1 by omega, Int.mul_add]; omega
      have : 0 ≤ sh l i * q := Int.mul_nonneg (by have := g.low i hi; omega) (by have := b.q1; omega)
      omega
theorem comp_ok : ∀ (σ : List Nat) (c : Nat → Nat) (d : Nat), Comp (cl l p q ws g b h) c d σ → (∀ i, i < l.length → (c i : Int) * (tot l * q) ≤ sh l i * q * (d : Int) + p * tot l) → ∀ t, t ≤ σ.length → Ok l p q (cL c σ t) (d + t) := by
  intro σ
  induction σ with
  | nil =>
    intro c d hC hu t ht
    obtain rfl : t = 0 := by simpa using ht
    rw [cL_zero]
    exact fun i hi => ⟨comp_low [] c d hC i hi, hu i hi⟩
  | cons x σ ih =>
    intro c d hC hu t ht
    cases t with
    | zero => rw [cL_zero]; exact fun i hi => ⟨comp_low _ c d hC i hi, hu i hi⟩
    | succ t =>
      obtain ⟨h1, h2, h3, h4, h5, h6⟩ := hC
      have e1 := cl_T (g := g) (b := b) (h := h)
      have := ih (bump c x) (d + 1) h6 (fun i hi => by
        have e3 : sh l i * q * ((d + 1 : Nat) : Int) = sh l i * q * (d : Int) + sh l i * q := by rw [show ((d + 1 : Nat) : Int) = (d : Int) + 1 by omega, Int.mul_add]; omega
        have hq : 0 ≤ sh l i * q := Int.mul_nonneg (by have := g.low i hi; omega) (by have := b.q1; omega)
        by_cases e : i = x
        · subst e
          have e2 := cl_s (g := g) (b := b) (h := h) hi
          have := ((cl_in hi (by omega) (by omega)).1 ⟨h4, h5⟩).1
          rw [bump_self]
          rw [show (d : Int) + 1 = ((d + 1 : Nat) : Int) by omega] at this
          exact this
        · rw [bump_ne c e]
          have := hu i hi
          omega) t (by simpa using ht)
      show Ok l p q (cL (bump c x) σ t) (d + (t + 1))
      rw [show d + (t + 1) = d + 1 + t by omega]
      exact this
/-- A list that fills the days, whatever the windows. -/
def Rd (l : List Int) : (Nat → Nat) → Nat → List Nat → Prop
  | c, d, [] => (d : Int) = tot l ∧ ∀ i, i < l.length → (c i : Int) = sh l i
  | c, d, x :: σ => (d : Int) < tot l ∧ x < l.length ∧ (c x : Int) < sh l x ∧ Rd l (bump c x) (d + 1) σ
theorem comp_rd : ∀ (σ : List Nat) (c : Nat → Nat) (d : Nat), Comp (cl l p q ws g b h) c d σ → Rd l c d σ := by
  have e1 := cl_T (g := g) (b := b) (h := h)
  intro σ
  induction σ with
  | nil => intro c d ⟨h1, h2⟩; exact ⟨by omega, fun i hi => by have := h2 i hi; have := cl_s (g := g) (b := b) (h := h) hi; omega⟩
  | cons x σ ih =>
    intro c d ⟨h1, h2, h3, h4, h5, h6⟩
    exact ⟨by omega, h2, by have := cl_s (g := g) (b := b) (h := h) h2; omega, ih _ _ h6⟩
theorem rd_comp : ∀ (σ : List Nat) (c : Nat → Nat) (d : Nat), Rd l c d σ → (∀ t, t ≤ σ.length → Ok l p q (cL c σ t) (d + t)) → Comp (cl l p q ws g b h) c d σ := by
  have e1 := cl_T (g := g) (b := b) (h := h)
  intro σ
  induction σ with
  | nil => intro c d ⟨h1, h2⟩ _; exact ⟨by omega, fun i hi => by have := h2 i hi; have := cl_s (g := g) (b := b) (h := h) hi; omega⟩
  | cons x σ ih =>
    intro c d ⟨h1, h2, h3, h4⟩ hok
    have k0 := hok 0 (Nat.zero_le _)
    have k1 := hok 1 (by simp)
    rw [cL_zero] at k0
    have k0x := (k0 x h2).1
    have k1x := (k1 x h2).2
    have ec : cL c (x :: σ) 1 = bump c x := cL_zero _ _
    rw [ec, bump_self] at k1x
    have hin := (cl_in (g := g) (b := b) (h := h) h2 h3 h1).2 ⟨by rw [show (d : Int) + 1 = ((d + 1 : Nat) : Int) by omega]; exact k1x, by rw [show ((c x + 1 : Nat) : Int) - 1 = (c x : Int) by omega]; exact k0x⟩
    refine ⟨by omega, h2, by have := cl_s (g := g) (b := b) (h := h) h2; omega, hin.1, hin.2, ih _ _ h4 fun t ht => ?_⟩
    have := hok (t + 1) (by simpa using ht)
    rw [show d + (t + 1) = d + 1 + t by omega] at this
    exact this
end
theorem rd_len {l : List Int} : ∀ (σ : List Nat) (c : Nat → Nat) (d : Nat), Rd l c d σ → (d : Int) + σ.length = tot l := by
  intro σ
  induction σ with
  | nil => intro c d ⟨h1, _⟩; simpa using h1
  | cons x σ ih => intro c d ⟨_, _, _, h4⟩; have := ih _ _ h4; simp only [List.length_cons] at *; omega
theorem rd_full {l : List Int} : ∀ (σ : List Nat) (c : Nat → Nat) (d : Nat), Rd l c d σ → ∀ i, i < l.length → (cL c σ σ.length i : Int) = sh l i := by
  intro σ
  induction σ with
  | nil => intro c d ⟨_, h2⟩ i hi; exact h2 i hi
  | cons x σ ih => intro c d ⟨_, _, _, h4⟩ i hi; exact ih _ _ h4 i hi
theorem rd_lt {l : List Int} : ∀ (σ : List Nat) (c : Nat → Nat) (d : Nat), Rd l c d σ → ∀ t, t < σ.length → el σ t < l.length := by
  intro σ
  induction σ with
  | nil => intro c d _ t ht; exact absurd ht (by simp)
  | cons x σ ih =>
    intro c d ⟨_, h2, _, h4⟩ t ht
    cases t with
    | zero => exact h2
    | succ t => exact ih _ _ h4 t (by simpa using ht)
/-- A round: each is called as often as their share. -/
structure IsRound (l : List Int) (e : Nat → Nat) : Prop where
  lt : ∀ t, t < (tot l).toNat → e t < l.length
  full : ∀ i, i < l.length → (cnt e (tot l).toNat i : Int) = sh l i
theorem cnt_mono (e : Nat → Nat) (i t : Nat) : ∀ m, cnt e t i ≤ cnt e (t + m) i := by
  intro m
  induction m with
  | zero => exact Nat.le_refl _
  | succ m ih => rw [← Nat.add_assoc, cnt_succ]; unfold bump; split <;> omega
theorem round_rd {l : List Int} (g : Good l) {e : Nat → Nat} (r : IsRound l e) : ∀ (σ : List Nat) (d : Nat), d + σ.length = (tot l).toNat → (∀ t, t < σ.length → σ.getD t 0 = e (d + t)) → Rd l (cnt e d) d σ := by
  have hT := g.tot_pos
  intro σ
  induction σ with
  | nil => intro d hd _; simp only [List.length_nil] at hd; exact ⟨by omega, fun i hi => by rw [show d = (tot l).toNat by omega]; exact r.full i hi⟩
  | cons x σ ih =>
    intro d hd he
    simp only [List.length_cons] at hd
    have hx : x = e d := he 0 (by simp)
    have hl := r.lt d (by omega)
    refine ⟨by omega, by rw [hx]; exact hl, ?_, ?_⟩
    · have h1 := cnt_mono e (e d) (d + 1) ((tot l).toNat - (d + 1))
      rw [show d + 1 + ((tot l).toNat - (d + 1)) = (tot l).toNat by omega, cnt_succ, bump_self] at h1
      have h2 := r.full (e d) hl
      rw [hx]; omega
    · rw [hx, ← cnt_succ]
      exact ih (d + 1) (by omega) fun t ht => by
        have := he (t + 1) (by simpa using ht)
        rw [show d + (t + 1) = d + 1 + t by omega] at this
        exact this
/-- The counts keep the bound exactly if what is owed does. -/
theorem ok_lag {l : List Int} {p q : Int} {e : Nat → Nat} {t : Nat} : Ok l p q (cnt e t) t ↔ ∀ i, i < l.length → -(p * tot l) ≤ lag (sh l) (tot l) e t i * q ∧ lag (sh l) (tot l) e t i * q ≤ p * tot l := by
  unfold Ok
  have e1 : ∀ i, lag (sh l) (tot l) e t i * q = sh l i * q * (t : Int) - (cnt e t i : Int) * (tot l * q) := fun i => by
    rw [lag_cnt, Int.sub_mul, Int.mul_right_comm (sh l i), Int.mul_assoc (cnt e t i : Int)]
  constructor
  · intro h i hi; have := h i hi; rw [e1]; omega
  · intro h i hi; have := h i hi; rw [e1] at this; omega
theorem range_getD (e : Nat → Nat) {n t : Nat} (h : t < n) : ((List.range n).map e).getD t 0 = e t := by
  rw [List.getD_eq_getElem?_getD, List.getElem?_map, List.getElem?_range h]; rfl
/-- A list of days that fills the windows is a round that keeps the bound. -/
theorem comp_round {l : List Int} {p q : Int} {ws : List (List S51)} {g : Good l} {b : Bnd p q} {h : WsIs l p q ws} {σ : List Nat} (hC : Comp (cl l p q ws g b h) (fun _ => 0) 0 σ) :
    (σ.length : Int) = tot l ∧ IsRound l (el σ) ∧ ∀ t : Nat, (t : Int) ≤ tot l → ∀ i, i < l.length → -(p * tot l) ≤ lag (sh l) (tot l) (el σ) t i * q ∧ lag (sh l) (tot l) (el σ) t i * q ≤ p * tot l := by
  have hT := g.tot_pos
  have hr := comp_rd σ _ 0 hC
  have hl := rd_len σ _ 0 hr
  have hm : 0 ≤ p * tot l := Int.mul_nonneg b.p0 (by omega)
  refine ⟨by omega, ⟨fun t ht => rd_lt σ _ 0 hr t (by omega), fun i hi => ?_⟩, fun t ht => ?_⟩
  · rw [show (tot l).toNat = σ.length by omega, ← cL_cnt σ _ (Nat.le_refl _)]
    exact rd_full σ _ 0 hr i hi
  · have := comp_ok σ _ 0 hC (fun i hi => by show (0 : Int) * _ ≤ sh l i * q * 0 + p * tot l; omega) t (by omega)
    rw [cL_cnt σ t (by omega), Nat.zero_add] at this
    exact ok_lag.1 this
theorem round_comp {l : List Int} {p q : Int} {ws : List (List S51)} {g : Good l} {b : Bnd p q} {h : WsIs l p q ws} {σ : List Nat} (hl : (σ.length : Int) = tot l) (r : IsRound l (el σ))
    (hk : ∀ t : Nat, (t : Int) ≤ tot l → ∀ i, i < l.length → -(p * tot l) ≤ lag (sh l) (tot l) (el σ) t i * q ∧ lag (sh l) (tot l) (el σ) t i * q ≤ p * tot l) : Comp (cl l p q ws g b h) (fun _ => 0) 0 σ := by
  have hT := g.tot_pos
  refine rd_comp σ _ 0 (round_rd g r σ 0 (by omega) fun t _ => by rw [Nat.zero_add]; rfl) fun t ht => ?_
  rw [cL_cnt σ t ht, Nat.zero_add]
  exact ok_lag.2 (hk t (by omega))
/-- There is a round with a deviation of at most p / q. -/
def Feas (l : List Int) (p q : Int) : Prop := ∃ e, IsRound l e ∧ ∀ t : Nat, (t : Int) ≤ tot l → ∀ i, i < l.length → -(p * tot l) ≤ lag (sh l) (tot l) e t i * q ∧ lag (sh l) (tot l) e t i * q ≤ p * tot l
theorem round_congr {l : List Int} {e e' : Nat → Nat} (h : ∀ t, t < (tot l).toNat → e t = e' t) (r : IsRound l e) : IsRound l e' :=
  ⟨fun t ht => by rw [← h t ht]; exact r.lt t ht, fun i hi => by rw [← cnt_congr (tot l).toNat h]; exact r.full i hi⟩
theorem fill_feas {l : List Int} {p q : Int} {ws : List (List S51)} (g : Good l) (b : Bnd p q) (h : WsIs l p q ws) : Fill (cl l p q ws g b h) (fun _ => 0) 0 ↔ Feas l p q := by
  have hT := g.tot_pos
  constructor
  · rintro ⟨σ, hC⟩
    obtain ⟨_, h2, h3⟩ := comp_round hC
    exact ⟨el σ, h2, h3⟩
  · rintro ⟨e, r, hk⟩
    have he : ∀ t, t < (tot l).toNat → e t = el ((List.range (tot l).toNat).map e) t := fun t ht => (range_getD e ht).symm
    refine ⟨(List.range (tot l).toNat).map e, round_comp (by simp; omega) (round_congr he r) fun t ht i hi => ?_⟩
    rw [← lag_congr (e := e) (fun τ hτ => he τ (by omega)) i]
    exact hk t ht i hi
theorem feasible_f {l : List Int} (g : Good l) {p q : Int} (b : Bnd p q) : ∃ z, Ev (fun n => turn_table_feasible.f n l (tot l) p q) z ∧ (z = true ↔ Feas l p q) := by
  obtain ⟨ws, e, h⟩ := windows_f g b
  have hn := g.len
  have hT := g.tot_pos
  obtain ⟨z, e2, hz⟩ := fits_f g b h (d := 0) (by omega) (St.zero g) (Cs.zero l.length)
  refine ⟨z, ?_, hz.trans (fill_feas g b h)⟩
  unfold turn_table_feasible.f
  refine Ev.bind e (ev_pos (by omega) (ev_pos (by rw [Int.toNat_natCast]; omega) ?_))
  rw [Int.toNat_natCast]
  exact Ev.bind e2 (Ev.now _)
end Go.Proofs.YtgobffgogmnmpaaDoor.Pure
