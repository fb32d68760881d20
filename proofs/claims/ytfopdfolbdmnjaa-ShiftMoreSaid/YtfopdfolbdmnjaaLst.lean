/- The search of the shift package ends at the least size of a plan. Conditions: one to twelve hours, needs of 0 to 50, up to twelvefold. -/
import Derived.Test.YtfopdfolbdmnjaaPx6
import Derived.Test.YtfopdfolbdmnjaaClock
namespace Go.Proofs.Ytfopdfolbdmnjaa.Pure
open Go.RowKit Go.Proofs.Ytfopdfolbdmnjaa.P Go.Proofs.YtfopdfolbdmnjaaW.PrintWords Go.Proofs.YtfopdfolbdmnjaaW.PrintLast Go.Proofs.YtfopdfolbdmnjaaW.PrintMore

theorem Clock.span {l : List Int} {t : Nat} {T S : Int} {y : Nat → Int} (c : Clock l t T S y) : ∀ (d a : Nat), a + d ≤ l.length → y a ≤ y (a + d) := by
  intro d
  induction d with
  | zero => intro a _; exact Int.le_refl _
  | succ d ih => intro a h; have := ih a (by omega); have := c.up (a + d) (by omega); rw [← Nat.add_assoc]; omega
theorem Clock.le {l : List Int} {t : Nat} {T S : Int} {y : Nat → Int} (c : Clock l t T S y) {a b : Nat} (h : a ≤ b) (hb : b ≤ l.length) : y a ≤ y b := by
  obtain ⟨d, rfl⟩ := Nat.exists_eq_add_of_le h
  exact c.span d a hb
theorem can_neg {l : List Int} {t : Nat} {T S : Int} {f : List Int} (hS : S < 0) : ¬ Can l t T S f := by
  intro ⟨y, c, _⟩
  have := c.le (Nat.zero_le l.length) (Nat.le_refl _)
  have := c.size
  omega
theorem can_mono {l : List Int} {t : Nat} {T S S' : Int} (hp : 0 < l.length) (t1 : 1 ≤ t) (h : S ≤ S') : Can l t T S [] → Can l t T S' [] := by
  intro ⟨y, c, _⟩
  refine ⟨fun v => if v = l.length then y v + (S' - S) else y v, ⟨?_, ?_, ?_, ?_⟩, fun j hj => absurd hj (Nat.not_lt_zero _)⟩
  · rw [if_pos rfl, if_neg (by omega)]; have := c.size; omega
  · intro h hl; rw [if_neg (by omega)]; have := c.up h hl; split <;> omega
  · intro h hl ht; rw [if_neg (by omega)]; have := c.low h hl ht; split <;> omega
  · intro h hl ht; rw [if_neg (by omega)]; have := c.wrap h hl ht; split <;> omega
def needSum (l : List Int) (T : Int) : Nat → Int := total fun h => l.getD h 0 * T
theorem needSum_succ (l : List Int) (T : Int) (h : Nat) : needSum l T (h + 1) = needSum l T h + l.getD h 0 * T := rfl
theorem needSum_le (l : List Int) (T : Int) (h0 : ∀ h, h < l.length → 0 ≤ l.getD h 0 * T) : ∀ (d a : Nat), a + d ≤ l.length → needSum l T a ≤ needSum l T (a + d) := by
  intro d
  induction d with
  | zero => intro a _; exact Int.le_refl _
  | succ d ih =>
    intro a h
    have h1 := ih a (by omega)
    have h2 := h0 (a + d) (by omega)
    rw [← Nat.add_assoc]
    show needSum l T a ≤ needSum l T (a + d) + l.getD (a + d) 0 * T
    omega
theorem can_top {l : List Int} {t : Nat} {T : Int} (h0 : ∀ h, h < l.length → 0 ≤ l.getD h 0 * T) (t1 : 1 ≤ t) (tn : t ≤ l.length) : Can l t T (needSum l T l.length) [] := by
  refine ⟨needSum l T, ⟨?_, ?_, ?_, ?_⟩, fun j hj => absurd hj (Nat.not_lt_zero _)⟩
  · show _ = 0 + _; omega
  · intro h hl; have := h0 h hl; rw [needSum_succ]; omega
  · intro h hl ht
    have := needSum_le l T h0 (t - 1) (h + 1 - t) (by omega)
    rw [show h + 1 - t + (t - 1) = h by omega] at this
    rw [needSum_succ]; omega
  · intro h hl ht
    have h1 := needSum_le l T h0 (l.length - (l.length + (h + 1) - t)) (l.length + (h + 1) - t) (by omega)
    rw [show l.length + (h + 1) - t + (l.length - (l.length + (h + 1) - t)) = l.length by omega] at h1
    have h2 := needSum_le l T h0 h 0 (by omega)
    rw [Nat.zero_add] at h2
    have h3 : needSum l T 0 = 0 := rfl
    rw [needSum_succ]; omega
/-- The least size of a plan. -/
structure IsL (l : List Int) (t : Nat) (T L : Int) : Prop where
  can : Can l t T L []
  low : ∀ S, S < L → ¬ Can l t T S []
theorem IsL.uniq {l : List Int} {t : Nat} {T L L' : Int} (a : IsL l t T L) (b : IsL l t T L') : L = L' := by
  by_cases h : L < L'
  · exact absurd a.can (b.low _ h)
  · by_cases h' : L' < L
    · exact absurd b.can (a.low _ h')
    · omega
theorem IsL.nonneg {l : List Int} {t : Nat} {T L : Int} (a : IsL l t T L) : 0 ≤ L := by
  by_cases h : L < 0
  · exact absurd a.can (can_neg h)
  · omega
theorem IsL.le {l : List Int} {t : Nat} {T L S : Int} (a : IsL l t T L) (h : Can l t T S []) : L ≤ S := by
  by_cases h' : S < L
  · exact absurd h (a.low _ h')
  · omega
theorem small_of {l : List Int} {t : Nat} (g : Good l t) {T S : Int} (T0 : 0 ≤ T) (T1 : T ≤ 12) (S0 : -10000 ≤ S) (S1 : S ≤ 10000) : Small l t T S [] :=
  ⟨g.len, g.pos, g.low, g.high, by have := g.one; omega, by have := g.top; omega, T0, T1, S0, S1, Nat.zero_le _, fun x hx => by cases hx⟩
theorem needSum_small {l : List Int} {t : Nat} (g : Good l t) {T : Int} (T0 : 0 ≤ T) (T1 : T ≤ 12) : ∀ n, n ≤ l.length → 0 ≤ needSum l T n ∧ needSum l T n ≤ 600 * (n : Int) := by
  intro n
  induction n with
  | zero => intro _; exact ⟨Int.le_refl _, Int.le_refl _⟩
  | succ n ih =>
    intro hn
    have h1 := ih (by omega)
    have hm := mul_small (g.low _ (getD_mem (show n < l.length by omega))) (g.high _ (getD_mem (show n < l.length by omega))) T0 T1
    rw [needSum_succ]
    omega

theorem least_l1 {l : List Int} {t : Nat} (g : Good l t) {T : Int} (T0 : 0 ≤ T) (T1 : T ≤ 12) : ∀ (d : Nat) (lo hi : Int) (c : List Int), (hi - lo).toNat ≤ d → 0 ≤ lo → lo ≤ hi → hi ≤ 7200 → Can l t T hi [] → (∀ S, S < lo → ¬ Can l t T S []) →
    ∃ L c', Ev (fun k => shift_clock_least.l1 k T c lo hi l t) (L, c') ∧ IsL l t T L ∧ L ≤ 7200 := by
  intro d
  have hp := g.pos
  have ht1 : 1 ≤ t := by have := g.one; omega
  induction d with
  | zero =>
    intro lo hi c hd h0 h1 h2 hc hn
    obtain rfl : lo = hi := by omega
    exact ⟨lo, c, Ev.step (fun k => by rw [shift_clock_least.l1]) (ev_neg (by omega) (Ev.now _)), ⟨hc, hn⟩, h2⟩
  | succ d ih =>
    intro lo hi c hd h0 h1 h2 hc hn
    by_cases hlt : lo < hi
    · have hmid : wrap64 (Int.tdiv (wrap64 (lo + hi)) 2) = (lo + hi) / 2 := by
        rw [wrap_id (n := lo + hi) (by omega), Int.tdiv_eq_ediv_of_nonneg (by omega), wrap_id (by omega)]
      have sm := small_of g T0 T1 (S := (lo + hi) / 2) (by omega) (by omega)
      obtain ⟨z, ez, hz⟩ := solve_f sm
      by_cases hcan : Can l t T ((lo + hi) / 2) []
      · obtain ⟨L, c', e, hL⟩ := ih lo ((lo + hi) / 2) c (by omega) h0 (by omega) (by omega) hcan hn
        refine ⟨L, c', Ev.step (fun k => by rw [shift_clock_least.l1]) (ev_pos hlt ?_), hL⟩
        rw [hmid]
        refine Ev.bind (bounds_f sm) (Ev.bind ez (ev_pos ?_ e))
        show (thr' z).2 = true
        exact hz.2 hcan
      · obtain ⟨L, c', e, hL⟩ := ih ((lo + hi) / 2 + 1) hi (thr' z).1 (by omega) (by omega) (by omega) h2 hc (fun S hS h => hcan (can_mono hp ht1 (by omega) h))
        refine ⟨L, c', Ev.step (fun k => by rw [shift_clock_least.l1]) (ev_pos hlt ?_), hL⟩
        rw [hmid, wrap_id (n := (lo + hi) / 2 + 1) (by omega)]
        refine Ev.bind (bounds_f sm) (Ev.bind ez (ev_neg ?_ e))
        show ¬ (thr' z).2 = true
        exact fun h => hcan (hz.1 h)
    · obtain rfl : lo = hi := by omega
      exact ⟨lo, c, Ev.step (fun k => by rw [shift_clock_least.l1]) (ev_neg (by omega) (Ev.now _)), ⟨hc, hn⟩, h2⟩
theorem least_l0 {l : List Int} {t : Nat} (g : Good l t) {T : Int} (T0 : 0 ≤ T) (T1 : T ≤ 12) : ∀ (d i : Nat), i + d = l.length → ∀ r, Ev (fun k => shift_clock_least.l1 k T [] 0 (needSum l T l.length) l t) r →
    Ev (fun k => shift_clock_least.l0 k T 0 (needSum l T i) l l.length i l t) r := by
  intro d
  have hl := g.len
  induction d with
  | zero =>
    intro i hi r h
    obtain rfl : i = l.length := by omega
    exact Ev.step (fun k => by rw [shift_clock_least.l0]) (ev_neg (by omega) h)
  | succ d ih =>
    intro i hi r h
    have hm := mul_small (g.low _ (getD_mem (show i < l.length by omega))) (g.high _ (getD_mem (show i < l.length by omega))) T0 T1
    have hs := needSum_small g T0 T1 i (by omega)
    refine Ev.step (fun k => by rw [shift_clock_least.l0]) (ev_pos (by omega) (ev_pos (by omega) (ev_pos (by omega) ?_)))
    rw [rd_nat, wrap_id (n := l.getD i 0 * T) (by omega), wrap_id (n := needSum l T i + l.getD i 0 * T) (by omega), wrap_id (n := (i : Int) + 1) (by omega)]
    exact ih (i + 1) (by omega) r h
/-- The search comes to the least size. -/
theorem least_f {l : List Int} {t : Nat} (g : Good l t) {T : Int} (T0 : 0 ≤ T) (T1 : T ≤ 12) : ∃ L c, Ev (fun k => shift_clock_least.f k l t T) (L, c) ∧ IsL l t T L ∧ L ≤ 7200 := by
  have hs := needSum_small g T0 T1 l.length (Nat.le_refl _)
  have hl := g.len
  obtain ⟨L, c, e, hL⟩ := least_l1 g T0 T1 (needSum l T l.length).toNat 0 (needSum l T l.length) [] (by omega) (Int.le_refl _) hs.1 (by omega) (can_top (fun h hh => (mul_small (g.low _ (getD_mem hh)) (g.high _ (getD_mem hh)) T0 T1).1) (by have := g.one; omega) (by have := g.top; omega)) (fun S hS => can_neg hS)
  refine ⟨L, c, ?_, hL⟩
  unfold shift_clock_least.f
  exact least_l0 g T0 T1 l.length 0 (by omega) _ e
/-- The length of the shifts, as a number of hours. -/
theorem Good.nat {l : List Int} {a : Int} (g : Good l a) : ∃ t : Nat, a = t := ⟨a.toNat, by have := g.one; omega⟩
theorem Least_good {l : List Int} {t : Nat} (g : Good l t) : ∃ L, Ev (fun k => shift_Least.f k l t) (L, 0) ∧ IsL l t 1 L ∧ L ≤ 7200 := by
  obtain ⟨L, c, e, hL⟩ := least_f g (T := 1) (by omega) (by omega)
  refine ⟨L, ?_, hL⟩
  unfold shift_Least.f
  exact Ev.bind (read_good g) (ev_pos rfl (Ev.bind e (Ev.now _)))
theorem Least_bad {l : List Int} {a : Int} (g : dayE l a ≠ 0) : Ev (fun k => shift_Least.f k l a) (0, dayE l a) := by
  unfold shift_Least.f
  exact Ev.bind (read_bad g) (ev_neg g (Ev.now _))
end Go.Proofs.Ytfopdfolbdmnjaa.Pure
