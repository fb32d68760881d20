/- The least deviation of a round, and that the program's search ends at it. Conditions: shares of the document. -/
import Derived.Test.YtgobffgogmnmpaaDoorPx6
import Derived.Test.YtgobffgogmnmpaaDoorRnd
import Derived.Test.YtgobffgogmnmpaaDoorFar
import Derived.Test.YtgobffgogmnmpaaDoorGcd
namespace Go.Proofs.YtgobffgogmnmpaaDoor.Pure
open Go.RowKit Go.Proofs.YtgobffgogmnmpaaDoor.P Go.Proofs.YtgobffgogmnmpaaDoorW.PrintWords Go.Proofs.YtgobffgogmnmpaaDoorW.PrintLast Go.Proofs.YtgobffgogmnmpaaDoorW.PrintMore

/-- Days whose deviation is at most m / total. -/
def Keeps (l : List Int) (e : Nat → Nat) (m : Int) : Prop := ∀ t : Nat, (t : Int) ≤ tot l → ∀ i, i < l.length → -m ≤ lag (sh l) (tot l) e t i ∧ lag (sh l) (tot l) e t i ≤ m
/-- There is a round with a deviation of at most m / total. -/
def Fe (l : List Int) (m : Int) : Prop := ∃ e, IsRound l e ∧ Keeps l e m
theorem Fe.mono {l : List Int} {m m' : Int} (h : m ≤ m') : Fe l m → Fe l m' := fun ⟨e, r, k⟩ => ⟨e, r, fun t ht i hi => by have := k t ht i hi; omega⟩
theorem keeps_iff {l : List Int} {e : Nat → Nat} {p q m : Int} (hq : 0 < q) (h : p * tot l = m * q) :
    (∀ t : Nat, (t : Int) ≤ tot l → ∀ i, i < l.length → -(p * tot l) ≤ lag (sh l) (tot l) e t i * q ∧ lag (sh l) (tot l) e t i * q ≤ p * tot l) ↔ Keeps l e m := by
  have key : ∀ x : Int, (-(p * tot l) ≤ x * q ∧ x * q ≤ p * tot l) ↔ (-m ≤ x ∧ x ≤ m) := fun x => by
    rw [h, ← Int.neg_mul]
    exact ⟨fun hx => ⟨Int.le_of_mul_le_mul_right hx.1 hq, Int.le_of_mul_le_mul_right hx.2 hq⟩, fun hx => ⟨Int.mul_le_mul_of_nonneg_right hx.1 (by omega), Int.mul_le_mul_of_nonneg_right hx.2 (by omega)⟩⟩
  exact ⟨fun k t ht i hi => (key _).1 (k t ht i hi), fun k t ht i hi => (key _).2 (k t ht i hi)⟩
theorem feas_iff {l : List Int} {p q m : Int} (hq : 0 < q) (h : p * tot l = m * q) : Feas l p q ↔ Fe l m :=
  ⟨fun ⟨e, r, k⟩ => ⟨e, r, (keeps_iff hq h).1 k⟩, fun ⟨e, r, k⟩ => ⟨e, r, (keeps_iff hq h).2 k⟩⟩
theorem red_bnd {l : List Int} (g : Good l) {m : Int} (h0 : 0 ≤ m) (h1 : m ≤ tot l) : Bnd (red m (tot l)).1 (red m (tot l)).2 := by
  have hT := g.tot_pos
  have hT2 := g.tot_le
  have hp := g.pos
  have hg := gcd_pos (a := m) (show 0 < tot l by omega)
  have a := red_nonneg h0 (show 0 < tot l by omega)
  have c := red_pos (a := m) (show 0 < tot l by omega)
  have d := red_le h0 (show 0 < tot l by omega)
  exact ⟨by omega, by omega, a, Int.ediv_le_ediv hg h1⟩
theorem feas_red {l : List Int} (g : Good l) (m : Int) : Feas l (red m (tot l)).1 (red m (tot l)).2 ↔ Fe l m := by
  have hT := g.tot_pos
  have hp := g.pos
  exact feas_iff (red_pos (by omega)) (red_cross (by omega))
/-- Fair's days are a round. -/
theorem fair_isRound {l : List Int} (g : Good l) : IsRound l (called (pickF l)) := ⟨fun t _ => fair_lt g t, fun i hi => fair_round g i hi⟩
theorem fe_fair {l : List Int} (g : Good l) {m : Int} (h : ∀ t i, i < l.length → -m ≤ lag (sh l) (tot l) (called (pickF l)) t i ∧ lag (sh l) (tot l) (called (pickF l)) t i ≤ m) : Fe l m := ⟨_, fair_isRound g, fun t _ i hi => h t i hi⟩
theorem fe_top {l : List Int} (g : Good l) : Fe l (tot l - 1) := fe_fair g fun t i hi => fair_quota g t i hi
/-- The least deviation of a round, times the total. -/
structure IsLe (l : List Int) (m : Int) : Prop where
  fe : Fe l m
  low : ∀ m', m' < m → ¬ Fe l m'
theorem IsLe.uniq {l : List Int} {m m' : Int} (a : IsLe l m) (b : IsLe l m') : m = m' := by
  by_cases h : m < m'
  · exact absurd a.fe (b.low _ h)
  · by_cases h' : m' < m
    · exact absurd b.fe (a.low _ h')
    · omega
theorem fe_neg {l : List Int} (g : Good l) {m : Int} (h : m < 0) : ¬ Fe l m := fun ⟨e, _, k⟩ => by
  have hT := g.tot_pos
  have := k 0 (by omega) 0 g.pos
  have e0 : lag (sh l) (tot l) e 0 0 = 0 := rfl
  omega
theorem IsLe.nonneg {l : List Int} (g : Good l) {m : Int} (a : IsLe l m) : 0 ≤ m := Int.not_lt.1 fun h => fe_neg g h a.fe
theorem IsLe.lt {l : List Int} (g : Good l) {m : Int} (a : IsLe l m) : m ≤ tot l - 1 := Int.not_lt.1 fun h => a.low _ h (fe_top g)
theorem least_l0 {l : List Int} (g : Good l) : ∀ (d : Nat) (lo hi : Int), (hi - lo).toNat ≤ d → 0 ≤ lo → lo ≤ hi → hi ≤ tot l → Fe l hi → (∀ m, m < lo → ¬ Fe l m) →
    ∃ m, Ev (fun n => turn_table_least.l0 n lo hi l (tot l)) (red m (tot l)) ∧ IsLe l m := by
  intro d
  have hT := g.tot_pos
  have hT2 := g.tot_le
  have hp := g.pos
  have done : ∀ lo hi, 0 ≤ lo → ¬ lo < hi → hi ≤ tot l → lo ≤ hi → Fe l hi → (∀ m, m < lo → ¬ Fe l m) → ∃ m, Ev (fun n => turn_table_least.l0 n lo hi l (tot l)) (red m (tot l)) ∧ IsLe l m := by
    intro lo hi h0 hlt h2 h1 hc hn
    obtain rfl : lo = hi := by omega
    exact ⟨lo, Ev.step (fun n => by rw [turn_table_least.l0]) (ev_neg hlt (Ev.bind (Of_f h0 (by omega) (by omega) (by omega)) (Ev.now _))), ⟨hc, hn⟩⟩
  induction d with
  | zero => intro lo hi hd h0 h1 h2 hc hn; exact done lo hi h0 (by omega) h2 h1 hc hn
  | succ d ih =>
    intro lo hi hd h0 h1 h2 hc hn
    by_cases hlt : lo < hi
    · have hmid : wrap64 (Int.tdiv (wrap64 (lo + hi)) 2) = (lo + hi) / 2 := by
        rw [wrap_id (n := lo + hi) (by omega), Int.tdiv_eq_ediv_of_nonneg (by omega), wrap_id (by omega)]
      have bn := red_bnd g (m := (lo + hi) / 2) (by omega) (by omega)
      obtain ⟨z, ez, hz⟩ := feasible_f g bn
      rw [feas_red g] at hz
      by_cases hcan : Fe l ((lo + hi) / 2)
      · obtain ⟨m, e, hm⟩ := ih lo ((lo + hi) / 2) (by omega) h0 (by omega) (by omega) hcan hn
        refine ⟨m, Ev.step (fun n => by rw [turn_table_least.l0]) (ev_pos hlt ?_), hm⟩
        rw [hmid]
        exact Ev.bind (Of_f (by omega) (by omega) (by omega) (by omega)) (Ev.bind ez (ev_pos (hz.2 hcan) e))
      · obtain ⟨m, e, hm⟩ := ih ((lo + hi) / 2 + 1) hi (by omega) (by omega) (by omega) h2 hc (fun m hm h => hcan (h.mono (by omega)))
        refine ⟨m, Ev.step (fun n => by rw [turn_table_least.l0]) (ev_pos hlt ?_), hm⟩
        rw [hmid, wrap_id (n := (lo + hi) / 2 + 1) (by omega)]
        exact Ev.bind (Of_f (by omega) (by omega) (by omega) (by omega)) (Ev.bind ez (ev_neg (fun h => hcan (hz.1 h)) e))
    · exact done lo hi h0 hlt h2 h1 hc hn
theorem tleast_f {l : List Int} (g : Good l) : ∃ m, Ev (fun n => turn_table_least.f n l (tot l)) (red m (tot l)) ∧ IsLe l m := by
  have hT := g.tot_pos
  have hp := g.pos
  obtain ⟨m, e, hm⟩ := least_l0 g (tot l).toNat 0 (tot l) (by omega) (Int.le_refl _) (by omega) (Int.le_refl _) ((fe_top g).mono (by omega)) (fun m hm => fe_neg g hm)
  exact ⟨m, by unfold turn_table_least.f; exact e, hm⟩
theorem isLe_ex {l : List Int} (g : Good l) : ∃ m, IsLe l m := by obtain ⟨m, _, h⟩ := tleast_f g; exact ⟨m, h⟩
theorem tleast_is {l : List Int} (g : Good l) {m : Int} (hm : IsLe l m) : Ev (fun n => turn_table_least.f n l (tot l)) (red m (tot l)) := by
  obtain ⟨m', e, h⟩ := tleast_f g
  rw [hm.uniq h]; exact e
theorem Least_good {l : List Int} (g : Good l) {m : Int} (hm : IsLe l m) : Ev (fun n => turn_Least.f n l) ((red m (tot l)).1, (red m (tot l)).2, 0) := by
  unfold turn_Least.f
  exact Ev.bind (read_good g) (ev_pos rfl (Ev.bind (tleast_is g hm) (Ev.now _)))
theorem Least_bad {l : List Int} (g : shE l ≠ 0) : Ev (fun n => turn_Least.f n l) (0, 0, shE l) := by
  unfold turn_Least.f
  exact Ev.bind (read_bad g) (ev_neg g (Ev.now _))

/-- The first day of a round: Least is at least 1 less the greatest share, divided by the total. -/
theorem IsLe.great {l : List Int} (g : Good l) {m : Int} (a : IsLe l m) : ∃ i, i < l.length ∧ tot l - sh l i ≤ m := by
  obtain ⟨e, r, k⟩ := a.fe
  have hT := g.tot_pos
  have hp := g.pos
  have h1 := r.lt 0 (by omega)
  have h2 := k 1 (by omega) (e 0) h1
  rw [show (1 : Nat) = 0 + 1 from rfl, lag_succ, if_pos rfl] at h2
  have e0 : lag (sh l) (tot l) e 0 (e 0) = 0 := rfl
  exact ⟨e 0, h1, by omega⟩
/-- Tijdeman's bound for the least deviation. -/
theorem IsLe.tijdeman {l : List Int} (g : Good l) (h2 : 2 ≤ l.length) {m : Int} (a : IsLe l m) : dd l * m ≤ (dd l - 1) * tot l := by
  have hd : 2 ≤ dd l := by unfold dd; omega
  refine Int.not_lt.1 fun h => ?_
  have h0 : (dd l - 1) * tot l / dd l < m := Int.ediv_lt_of_lt_mul (by omega) (by rw [Int.mul_comm m]; exact h)
  refine a.low _ h0 (fe_fair g fun t i hi => ?_)
  have hb := fair_bound g h2 t i hi
  have e2 : lag (sh l) (tot l) (called (pickF l)) t i ≤ (dd l - 1) * tot l / dd l := (Int.le_ediv_iff_mul_le (by omega)).2 (by rw [Int.mul_comm]; exact hb.2)
  have e3 : -lag (sh l) (tot l) (called (pickF l)) t i ≤ (dd l - 1) * tot l / dd l := (Int.le_ediv_iff_mul_le (by omega)).2 (by
    rw [Int.neg_mul, Int.mul_comm]; omega)
  omega
end Go.Proofs.YtgobffgogmnmpaaDoor.Pure
