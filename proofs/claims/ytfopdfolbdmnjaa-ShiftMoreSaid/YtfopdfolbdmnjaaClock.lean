/- What a plan of the hours is in partial sums, and that the bounds of the shift package and those of the document ask for just this. Conditions: one to twelve hours, small numbers. -/
import Derived.Test.YtfopdfolbdmnjaaContra
namespace Go.Proofs.Ytfopdfolbdmnjaa.Pure
open Go.RowKit Go.Proofs.Ytfopdfolbdmnjaa.P Go.Proofs.YtfopdfolbdmnjaaW.PrintWords Go.Proofs.YtfopdfolbdmnjaaW.PrintLast Go.Proofs.YtfopdfolbdmnjaaW.PrintMore

/-- The partial sums y of a plan of size S: every hour of l is covered T times its need by shifts of t hours. -/
structure Clock (l : List Int) (t : Nat) (T S : Int) (y : Nat → Int) : Prop where
  size : y l.length = y 0 + S
  up : ∀ h, h < l.length → y h ≤ y (h + 1)
  low : ∀ h, h < l.length → t ≤ h + 1 → y (h + 1 - t) + l.getD h 0 * T ≤ y (h + 1)
  wrap : ∀ h, h < l.length → h + 1 < t → y (l.length + (h + 1) - t) + l.getD h 0 * T - S ≤ y (h + 1)
/-- The first numbers of the plan are fixed. -/
def Fixed (f : List Int) (y : Nat → Int) : Prop := ∀ j, j < f.length → y (j + 1) = y j + f.getD j 0
def Can (l : List Int) (t : Nat) (T S : Int) (f : List Int) : Prop := ∃ y, Clock l t T S y ∧ Fixed f y

theorem sat_append (a b : List Arc) (y : Nat → Int) : Sat (a ++ b) y ↔ Sat a y ∧ Sat b y := by
  unfold Sat
  constructor
  · intro h; exact ⟨fun x hx => h x (List.mem_append_left _ hx), fun x hx => h x (List.mem_append_right _ hx)⟩
  · intro ⟨h1, h2⟩ x hx
    rcases List.mem_append.1 hx with h | h
    · exact h1 x h
    · exact h2 x h
theorem sat_cons (a : Arc) (b : List Arc) (y : Nat → Int) : Sat (a :: b) y ↔ y a.1 + a.2.2 ≤ y a.2.1 ∧ Sat b y := by
  unfold Sat
  simp only [List.mem_cons, forall_eq_or_imp]
theorem sat_nil (y : Nat → Int) : Sat [] y ↔ True := ⟨fun _ => trivial, fun _ x hx => by cases hx⟩
theorem sat_flat (g : Nat → List Arc) (y : Nat → Int) : ∀ n, Sat ((List.range n).flatMap g) y ↔ ∀ h, h < n → Sat (g h) y := by
  intro n
  unfold Sat
  constructor
  · intro hs h hh x hx
    exact hs x (List.mem_flatMap.2 ⟨h, List.mem_range.2 hh, hx⟩)
  · intro hs x hx
    obtain ⟨h, hh, hx⟩ := List.mem_flatMap.1 hx
    exact hs h (List.mem_range.1 hh) x hx

/-! The bounds as the shift package lays them. -/
def covP (l : List Int) (t : Nat) (T S : Int) (h : Nat) : S72 :=
  if t ≤ h + 1 then ⟨(h : Int) + 1 - t, (h : Int) + 1, l.getD h 0 * T, h⟩ else ⟨(l.length : Int) + ((h : Int) + 1 - t), (h : Int) + 1, l.getD h 0 * T - S, h⟩
def hourP (l : List Int) (t : Nat) (T S : Int) (h : Nat) : List S72 := [⟨h, (h : Int) + 1, 0, -1⟩, covP l t T S h]
def fixP : Nat → Int → List Int → List S72
  | _, _, [] => []
  | j, s, x :: r => ⟨0, (j : Int) + 1, s + x, -1⟩ :: ⟨(j : Int) + 1, 0, -s - x, -1⟩ :: fixP (j + 1) (s + x) r
def startP (l : List Int) (S : Int) : List S72 := [⟨0, (l.length : Int), S, -1⟩, ⟨(l.length : Int), 0, -S, -1⟩]
def arcsP (l : List Int) (t : Nat) (T S : Int) (f : List Int) : List S72 :=
  (startP l S ++ (List.range l.length).flatMap (hourP l t T S)) ++ fixP 0 0 f

theorem fixP_sat : ∀ (f : List Int) (j : Nat) (s : Int) (y : Nat → Int), y j = y 0 + s → (Sat ((fixP j s f).map arcP) y ↔ ∀ i, i < f.length → y (j + i + 1) = y (j + i) + f.getD i 0) := by
  intro f
  induction f with
  | nil => intro j s y _; exact ⟨fun _ i hi => absurd hi (Nat.not_lt_zero _), fun _ x hx => by cases hx⟩
  | cons x r ih =>
    intro j s y hy
    rw [fixP, List.map_cons, List.map_cons, sat_cons, sat_cons]
    simp only [arcP]
    rw [show ((j : Int) + 1).toNat = j + 1 by omega, show (0 : Int).toNat = 0 from rfl]
    constructor
    · intro ⟨h1, h2, h3⟩ i hi
      have h4 := (ih (j + 1) (s + x) y (by omega)).1 h3
      cases i with
      | zero => simp only [Nat.add_zero, List.getD_cons_zero]; omega
      | succ i =>
        have := h4 i (by simpa using hi)
        rw [show j + (i + 1) + 1 = j + 1 + i + 1 by omega, show j + (i + 1) = j + 1 + i by omega, List.getD_cons_succ]
        exact this
    · intro h
      have h0 := h 0 (by simp)
      simp only [Nat.add_zero, List.getD_cons_zero] at h0
      refine ⟨by omega, by omega, (ih (j + 1) (s + x) y (by omega)).2 fun i hi => ?_⟩
      have := h (i + 1) (by simpa using hi)
      rw [show j + (i + 1) + 1 = j + 1 + i + 1 by omega, show j + (i + 1) = j + 1 + i by omega, List.getD_cons_succ] at this
      exact this
theorem map_flat (g : Nat → List S72) (n : Nat) : ((List.range n).flatMap g).map arcP = (List.range n).flatMap fun h => (g h).map arcP := by
  rw [List.map_flatMap]
theorem arcsP_sat (l : List Int) (t : Nat) (T S : Int) (f : List Int) (y : Nat → Int) (_ht : t ≤ l.length) : Sat ((arcsP l t T S f).map arcP) y ↔ Clock l t T S y ∧ Fixed f y := by
  unfold arcsP
  rw [List.map_append, List.map_append, sat_append, sat_append, map_flat, sat_flat, fixP_sat f 0 0 y (by omega)]
  unfold startP
  simp only [List.map_cons, List.map_nil, sat_cons, arcP]
  rw [show ((l.length : Int)).toNat = l.length by omega, show (0 : Int).toNat = 0 from rfl]
  have hh : ∀ h, h < l.length → (Sat ((hourP l t T S h).map arcP) y ↔ y h ≤ y (h + 1) ∧ (t ≤ h + 1 → y (h + 1 - t) + l.getD h 0 * T ≤ y (h + 1)) ∧ (h + 1 < t → y (l.length + (h + 1) - t) + l.getD h 0 * T - S ≤ y (h + 1))) := by
    intro h hl
    unfold hourP covP
    simp only [List.map_cons, List.map_nil, sat_cons, sat_nil]
    by_cases c : t ≤ h + 1
    · rw [if_pos c]
      simp only [arcP]
      rw [show ((h : Int) + 1).toNat = h + 1 by omega, show ((h : Int)).toNat = h by omega, show ((h : Int) + 1 - t).toNat = h + 1 - t by omega]
      constructor
      · intro ⟨h1, h2, _⟩; exact ⟨by omega, fun _ => h2, fun h => by omega⟩
      · intro ⟨h1, h2, _⟩; exact ⟨by omega, h2 c, trivial⟩
    · rw [if_neg c]
      simp only [arcP]
      rw [show ((h : Int) + 1).toNat = h + 1 by omega, show ((h : Int)).toNat = h by omega, show ((l.length : Int) + ((h : Int) + 1 - t)).toNat = l.length + (h + 1) - t by omega]
      constructor
      · intro ⟨h1, h2, _⟩; exact ⟨by omega, fun h => by omega, fun _ => by omega⟩
      · intro ⟨h1, _, h2⟩; exact ⟨by omega, by have := h2 (by omega); omega, trivial⟩
  constructor
  · intro ⟨⟨⟨h1, h2, _⟩, h3⟩, h4⟩
    have h5 := fun h hl => (hh h hl).1 (h3 h hl)
    refine ⟨⟨by omega, fun h hl => (h5 h hl).1, fun h hl => (h5 h hl).2.1, fun h hl => (h5 h hl).2.2⟩, fun j hj => ?_⟩
    have := h4 j hj
    rwa [Nat.zero_add] at this
  · intro ⟨⟨h1, h2, h3, h4⟩, h5⟩
    refine ⟨⟨⟨by omega, by omega, fun x hx => by cases hx⟩, fun h hl => (hh h hl).2 ⟨h2 h hl, h3 h hl, h4 h hl⟩⟩, fun j hj => ?_⟩
    rw [Nat.zero_add]; exact h5 j hj
/-- The numbers are small. -/
structure Small (l : List Int) (t : Nat) (T S : Int) (f : List Int) : Prop where
  len : l.length ≤ 12
  pos : 0 < l.length
  low : ∀ x, x ∈ l → 0 ≤ x
  high : ∀ x, x ∈ l → x ≤ 50
  t1 : 1 ≤ t
  tn : t ≤ l.length
  T0 : 0 ≤ T
  T1 : T ≤ 12
  S0 : -10000 ≤ S
  S1 : S ≤ 10000
  fl : f.length ≤ l.length
  f0 : ∀ x, x ∈ f → 0 ≤ x ∧ x ≤ 10000
theorem Small.need {l : List Int} {t : Nat} {T S : Int} {f : List Int} (s : Small l t T S f) {h : Nat} (hl : h < l.length) : 0 ≤ l.getD h 0 ∧ l.getD h 0 ≤ 50 := ⟨s.low _ (getD_mem hl), s.high _ (getD_mem hl)⟩
theorem mul_small {x T : Int} (h0 : 0 ≤ x) (h1 : x ≤ 50) (t0 : 0 ≤ T) (t1 : T ≤ 12) : 0 ≤ x * T ∧ x * T ≤ 600 := by
  refine ⟨Int.mul_nonneg h0 t0, ?_⟩
  have := Int.mul_le_mul h1 t1 t0 (by omega : (0 : Int) ≤ 50)
  omega
theorem fixP_ok (n : Nat) (hn : n ≤ 12) : ∀ (f : List Int) (j : Nat) (s : Int), (∀ x, x ∈ f → 0 ≤ x ∧ x ≤ 10000) → j + f.length ≤ n → 0 ≤ s → s ≤ 10000 * (j : Int) → ∀ b, b ∈ fixP j s f → OkP ((n : Int) + 1) b := by
  intro f
  induction f with
  | nil => intro j s _ _ _ _ b hb; cases hb
  | cons x r ih =>
    intro j s hf hj h0 h1 b hb
    have hx := hf x (List.mem_cons_self ..)
    simp only [List.length_cons] at hj
    rw [fixP] at hb
    rcases List.mem_cons.1 hb with rfl | hb
    · exact ⟨by dsimp only; omega, by dsimp only; omega, by dsimp only; omega, by dsimp only; omega, by dsimp only; omega, by dsimp only; omega⟩
    rcases List.mem_cons.1 hb with rfl | hb
    · exact ⟨by dsimp only; omega, by dsimp only; omega, by dsimp only; omega, by dsimp only; omega, by dsimp only; omega, by dsimp only; omega⟩
    exact ih (j + 1) (s + x) (fun y hy => hf y (List.mem_cons_of_mem _ hy)) (by omega) (by omega) (by omega) b hb
theorem arcsP_okN {l : List Int} {t : Nat} {T S : Int} {f : List Int} (s : Small l t T S f) : ∀ b, b ∈ arcsP l t T S f → OkP ((l.length : Int) + 1) b := by
  intro b hb
  obtain ⟨h1, h2, h3, h4, h5, h6, h7, h8, h9, h10, h11, h12⟩ := s
  unfold arcsP at hb
  rcases List.mem_append.1 hb with hb | hb
  · rcases List.mem_append.1 hb with hb | hb
    · unfold startP at hb
      rcases List.mem_cons.1 hb with rfl | hb
      · exact ⟨by dsimp only; omega, by dsimp only; omega, by dsimp only; omega, by dsimp only; omega, by dsimp only; omega, by dsimp only; omega⟩
      rcases List.mem_cons.1 hb with rfl | hb
      · exact ⟨by dsimp only; omega, by dsimp only; omega, by dsimp only; omega, by dsimp only; omega, by dsimp only; omega, by dsimp only; omega⟩
      cases hb
    · obtain ⟨h, hh, hb⟩ := List.mem_flatMap.1 hb
      have hh := List.mem_range.1 hh
      have hm := mul_small (h3 _ (getD_mem hh)) (h4 _ (getD_mem hh)) h7 h8
      unfold hourP at hb
      rcases List.mem_cons.1 hb with rfl | hb
      · exact ⟨by dsimp only; omega, by dsimp only; omega, by dsimp only; omega, by dsimp only; omega, by dsimp only; omega, by dsimp only; omega⟩
      rcases List.mem_cons.1 hb with rfl | hb
      · unfold covP
        split
        · exact ⟨by dsimp only; omega, by dsimp only; omega, by dsimp only; omega, by dsimp only; omega, by dsimp only; omega, by dsimp only; omega⟩
        · exact ⟨by dsimp only; omega, by dsimp only; omega, by dsimp only; omega, by dsimp only; omega, by dsimp only; omega, by dsimp only; omega⟩
      cases hb
  · exact fixP_ok l.length h1 f 0 0 h12 (by omega) (Int.le_refl _) (by omega) b hb
theorem arcsP_ok {l : List Int} {t : Nat} {T S : Int} {f : List Int} (s : Small l t T S f) : ∀ b, b ∈ arcsP l t T S f → OkP 13 b := by
  intro b hb
  have h1 := s.len
  obtain ⟨a0, a1, b0, b1, w0, w1⟩ := arcsP_okN s b hb
  exact ⟨a0, by omega, b0, by omega, w0, w1⟩
theorem fixP_len : ∀ (f : List Int) (j : Nat) (s : Int), (fixP j s f).length = 2 * f.length := by
  intro f
  induction f with
  | nil => intro j s; rfl
  | cons x r ih => intro j s; rw [fixP, List.length_cons, List.length_cons, ih, List.length_cons]; omega
theorem flat_len (l : List Int) (t : Nat) (T S : Int) : ∀ n, ((List.range n).flatMap (hourP l t T S)).length = 2 * n := by
  intro n
  induction n with
  | zero => rfl
  | succ n ih => rw [List.range_succ, List.flatMap_append, List.length_append, ih]; simp [hourP]; omega
theorem arcsP_len (l : List Int) (t : Nat) (T S : Int) (f : List Int) : (arcsP l t T S f).length = 2 + 2 * l.length + 2 * f.length := by
  unfold arcsP
  rw [List.length_append, List.length_append, flat_len, fixP_len]
  rfl

/-! What the walked function lays. -/
theorem bounds_l1 (x3 : List Int) (hx : x3.length ≤ 12) (hf : ∀ x, x ∈ x3 → 0 ≤ x ∧ x ≤ 10000) : ∀ (r : List Int) (j : Nat) (s : Int) (x10 : List S72), x3.drop j = r → j ≤ x3.length → 0 ≤ s → s ≤ 10000 * (j : Int) → x10.length + 2 * r.length ≤ 1000 →
    Ev (fun k => shift_clock_bounds.l1 k x10 s x3 x3.length j) (x10 ++ fixP j s r) := by
  intro r
  induction r with
  | nil =>
    intro j s x10 hd hj h0 h1 hl
    have : x3.length ≤ j := by
      have := congrArg List.length hd
      rw [List.length_drop, List.length_nil] at this; omega
    rw [show fixP j s [] = [] from rfl, List.append_nil]
    exact Ev.step (fun k => by rw [shift_clock_bounds.l1]) (ev_neg (by omega) (Ev.now _))
  | cons x r ih =>
    intro j s x10 hd hj h0 h1 hl
    have hlt : j < x3.length := by
      have := congrArg List.length hd
      rw [List.length_drop, List.length_cons] at this; omega
    have hx' : x3.getD j 0 = x ∧ x3.drop (j + 1) = r := by
      rw [List.drop_eq_getElem_cons hlt] at hd
      obtain ⟨h1, h2⟩ := List.cons.inj hd
      refine ⟨?_, h2⟩
      rw [List.getD_eq_getElem?_getD, List.getElem?_eq_getElem hlt]
      exact h1
    have hb := hf x (by rw [← hx'.1]; exact getD_mem hlt)
    refine Ev.step (fun k => by rw [shift_clock_bounds.l1]) (ev_pos (by omega) (ev_pos (by omega) (ev_pos (by omega) ?_)))
    rw [rd_nat, hx'.1, wrap_id (n := (j : Int) + 1) (by omega), wrap_id (n := s + x) (by omega), wrap_id (n := -s) (by omega), wrap_id (n := -s - x) (by omega)]
    simp only [List.length_cons] at hl
    refine ev_pos (by simp only [List.length_cons, List.length_nil]; omega) ?_
    have h2 := ih (j + 1) (s + x) (x10 ++ [⟨0, (j : Int) + 1, s + x, -1⟩, ⟨(j : Int) + 1, 0, -s - x, -1⟩]) hx'.2 (by omega) (by omega) (by omega) (by simp only [List.length_append, List.length_cons, List.length_nil]; omega)
    rw [List.append_assoc] at h2
    exact h2
theorem bounds_l0 {l : List Int} {t : Nat} {T S : Int} {f : List Int} (s : Small l t T S f) : ∀ (d h : Nat), h + d = l.length →
    Ev (fun k => shift_clock_bounds.l0 k S T f l.length (startP l S ++ (List.range h).flatMap (hourP l t T S)) l l.length h l t) (arcsP l t T S f) := by
  intro d
  have hs := s
  obtain ⟨h1, h2, h3, h4, h5, h6, h7, h8, h9, h10, h11, h12⟩ := hs
  induction d with
  | zero =>
    intro h hh
    refine Ev.step (fun k => by rw [shift_clock_bounds.l0]) (ev_neg (by omega) ?_)
    obtain rfl : h = l.length := by omega
    exact bounds_l1 f (by omega) h12 f 0 0 _ rfl (by omega) (Int.le_refl _) (by omega) (by
      rw [List.length_append, flat_len]; simp only [startP, List.length_cons, List.length_nil]; omega)
  | succ d ih =>
    intro h hh
    have hlt : h < l.length := by omega
    have hm := mul_small (h3 _ (getD_mem hlt)) (h4 _ (getD_mem hlt)) h7 h8
    have hlen : (startP l S ++ (List.range h).flatMap (hourP l t T S)).length ≤ 100 := by
      rw [List.length_append, flat_len]; simp only [startP, List.length_cons, List.length_nil]; omega
    have hnext : startP l S ++ (List.range (h + 1)).flatMap (hourP l t T S) = ((startP l S ++ (List.range h).flatMap (hourP l t T S)) ++ [(⟨h, (h : Int) + 1, 0, -1⟩ : S72)]) ++ [covP l t T S h] := by
      rw [List.range_succ, List.flatMap_append, List.flatMap_cons, List.flatMap_nil, List.append_nil, List.append_assoc, List.append_assoc]; rfl
    have hi := ih (h + 1) (by omega)
    rw [hnext] at hi
    refine Ev.step (fun k => by rw [shift_clock_bounds.l0]) (ev_pos (by omega) (ev_pos (by omega) (ev_pos (by omega) (ev_pos (by omega) ?_))))
    rw [rd_nat, wrap_id (n := (h : Int) + 1) (by omega), wrap_id (n := (h : Int) + 1 - t) (by omega), wrap_id (n := l.getD h 0 * T) (by omega), wrap_id (n := l.getD h 0 * T - S) (by omega), wrap_id (n := (l.length : Int) + ((h : Int) + 1 - t)) (by omega)]
    by_cases c : t ≤ h + 1
    · rw [show covP l t T S h = ⟨(h : Int) + 1 - t, (h : Int) + 1, l.getD h 0 * T, h⟩ from if_pos c] at hi
      exact ev_pos (by omega) (ev_pos (by simp only [List.length_append, List.length_cons, List.length_nil] at hlen ⊢; omega) hi)
    · rw [show covP l t T S h = ⟨(l.length : Int) + ((h : Int) + 1 - t), (h : Int) + 1, l.getD h 0 * T - S, h⟩ from if_neg c] at hi
      exact ev_neg (by omega) (ev_pos (by simp only [List.length_append, List.length_cons, List.length_nil] at hlen ⊢; omega) hi)
theorem bounds_f {l : List Int} {t : Nat} {T S : Int} {f : List Int} (s : Small l t T S f) : Ev (fun k => shift_clock_bounds.f k l t S T f) (arcsP l t T S f) := by
  have h := bounds_l0 s l.length 0 (by omega)
  unfold shift_clock_bounds.f
  rw [wrap_id (n := -S) (by have := s.S0; have := s.S1; omega)]
  exact h

def thr' (z : Int × Int × Int × Int × Int × Int × Int × Int × Int × Int × Int × Int × Int × List Int × Bool) : List Int × Bool := z.2.2.2.2.2.2.2.2.2.2.2.2.2
/-- solve answers whether there is such a plan. -/
theorem solve_f {l : List Int} {t : Nat} {T S : Int} {f : List Int} (s : Small l t T S f) : ∃ z, Ev (fun k => shift_clock_solve.f k l t (arcsP l t T S f)) z ∧ ((thr' z).2 = true ↔ Can l t T S f) := by
  have hok := arcsP_ok s
  have hlen := arcsP_len l t T S f
  have h11 := s.fl
  have h1 := s.len
  obtain ⟨now', by', ok, e, k1, k2, k3⟩ := roundsL_spec (arcsP l t T S f) hok (by omega) (2 * (l.length + 2)) (List.replicate 13 0) (List.replicate 13 (-1)) 0 (List.length_replicate ..) (fun v => by rw [fn_rep]; exact ⟨Int.le_refl _, Int.le_refl _⟩) (by omega) (fun x hx => by
    have := (List.mem_replicate.1 hx).2; omega)
  have hN : ∀ a, a ∈ (arcsP l t T S f).map arcP → a.1 < l.length + 1 ∧ a.2.1 < l.length + 1 := by
    intro a ha
    obtain ⟨b, hb, rfl⟩ := List.mem_map.1 ha
    obtain ⟨a0, a1, b0, b1, w0, w1⟩ := arcsP_okN s b hb
    simp only [arcP]
    omega
  have hk : ok = true ↔ Can l t T S f := by
    rw [k1, fn_rep]
    constructor
    · intro ⟨r, _, h⟩
      exact ⟨_, (arcsP_sat l t T S f _ s.tn).1 h⟩
    · intro ⟨y, hy⟩
      obtain ⟨r, hr, h⟩ := ford (l.length + 1) _ hN ⟨y, (arcsP_sat l t T S f y s.tn).2 hy⟩
      exact ⟨r, by omega, h⟩
  unfold shift_clock_solve.f
  by_cases ho : ok = true
  · subst ho
    refine ⟨_, ev_pos (by omega) (Ev.congr (fun k => by rw [e, Option.bind_some]; exact if_pos rfl) (Ev.now _)), ?_⟩
    exact hk
  · have ho' : ok = false := by cases ok; rfl; exact absurd rfl ho
    subst ho'
    have hp : Preds (arcsP l t T S f) by' := ⟨by rw [k2]; exact List.length_replicate .., k3, hok⟩
    obtain ⟨h, hh⟩ : ∃ h, Ev (fun k => shift_clock_contradiction.f k l t (arcsP l t T S f) by') h := by
      rcases contra_f hp l t with ⟨c, r, _, h⟩ | ⟨_, h⟩
      · exact ⟨_, h⟩
      · exact ⟨_, h⟩
    refine ⟨_, ev_pos (by omega) (Ev.congr (fun k => by rw [e, Option.bind_some]; exact if_neg ho) (Ev.bind hh (Ev.now _))), ?_⟩
    exact hk
end Go.Proofs.Ytfopdfolbdmnjaa.Pure
