/- The statement TurnLeast, of what the walked functions compute: the bounds of Least. Conditions: none but the bounds of the law. -/
import Derived.Test.YtgobffgogmnmpaaDoorPx16
import Derived.Test.YtgobffgogmnmpaaDoorPx31
import Derived.Test.YtgobffgogmnmpaaDoorTri
import Derived.Test.YtgobffgogmnmpaaDoorBof
namespace Go.Proofs.YtgobffgogmnmpaaDoor.Pure
open Go.RowKit Go.Proofs.YtgobffgogmnmpaaDoor.P Go.Proofs.YtgobffgogmnmpaaDoorW.PrintWords Go.Proofs.YtgobffgogmnmpaaDoorW.PrintLast Go.Proofs.YtgobffgogmnmpaaDoorW.PrintMore
theorem ne_self {a : Int} : (a != a) = false := by simp
theorem red_isB {l : List Int} (g : Good l) {m : Int} (h0 : 0 ≤ m) (h1 : m ≤ tot l) : IsB (red m (tot l)).1 (red m (tot l)).2 := by
  have hT := g.tot_pos
  have hp := g.pos
  exact ⟨red_bnd g h0 h1, by rw [red_gcd (by omega)]; rfl⟩
theorem least_j5 {l : List Int} (g : Good l) {m : Int} (hm : IsLe l m) : Ev (fun k => trishawlaw01_TurnLeast.j5 k l (tot l) m false) true := by
  have hT := g.tot_pos
  have hT2 := g.tot_le
  have hp := g.pos
  have hn := g.len
  have m0 := hm.nonneg g
  have m1 := hm.lt g
  refine Ev.step (fun k => by rw [trishawlaw01_TurnLeast.j5]) (ev_neg Bool.false_ne_true ?_)
  by_cases hz : m = 0
  · refine ev_pos hz (ev_pos ?_ alive_ev')
    obtain ⟨i, hi, h⟩ := hm.great g
    by_cases h1 : l.length = 1
    · omega
    · exfalso
      have hs : sm (sh l) l.length = tot l := rfl
      have key : ∀ n, n ≤ l.length → i < n → sh l i + ((n : Int) - 1) ≤ sm (sh l) n := by
        intro n
        induction n with
        | zero => intro _ h; omega
        | succ n ih =>
          intro hn hi'
          have := g.low n (by omega)
          show _ ≤ sm (sh l) n + sh l n
          by_cases c : i = n
          · subst c
            have := (sum_small g i (by omega)).1
            omega
          · have := ih (by omega) (by omega)
            omega
      have := key l.length (Nat.le_refl _) hi
      omega
  · refine ev_neg hz ?_
    rw [wrap_id (n := m - 1) (by omega)]
    obtain ⟨z, e, hz'⟩ := Feasible_good g (red_isB g (m := m - 1) (by omega) (by omega))
    refine Ev.bind (Ratio_f (by omega) (by omega) (by omega) (by omega)) (Ev.bind e (ev_pos rfl ?_))
    rw [feas_red g] at hz'
    exact ev_neg (fun h => hm.low (m - 1) (by omega) (hz'.1 h)) alive_ev'
theorem least_j4 {l : List Int} (g : Good l) {m : Int} (hm : IsLe l m) : Ev (fun k => trishawlaw01_TurnLeast.j4 k l (tot l) m false (red m (tot l)).1 (red m (tot l)).2) true := by
  have m0 := hm.nonneg g
  have m1 := hm.lt g
  refine Ev.step (fun k => by rw [trishawlaw01_TurnLeast.j4]) ?_
  obtain ⟨z, e, hz⟩ := Feasible_good g (red_isB g (m := m) (by omega) (by omega))
  rw [feas_red g] at hz
  obtain rfl : z = true := hz.2 hm.fe
  exact ev_neg Bool.false_ne_true (Ev.bind e (ev_pos rfl (least_j5 g hm)))
theorem least_l1 {l : List Int} (g : Good l) {m : Int} (hm : IsLe l m) {σ : List Nat} (s : IsRou l m σ) {gr : Int} (hg : ∀ i, i < l.length → sh l i ≤ gr) (hg2 : 0 ≤ gr ∧ gr ≤ 20) : ∀ (r t : Nat) (c0 : List Int), t + r = σ.length → Cs c0 l.length (cnt (el σ) t) →
    Ev (fun k => trishawlaw01_TurnLeast.l1 k l (tot l) (il σ) gr c0 t (red m (tot l)).1 (red m (tot l)).2) true := by
  intro r
  have hT := g.tot_pos
  have hT2 := g.tot_le
  have hp := g.pos
  have hn := g.len
  have m0 := hm.nonneg g
  have m1 := hm.lt g
  have hl := il_len σ
  have hsl := s.len
  induction r with
  | zero =>
    intro t c0 ht hc
    have q1 := red_pos (a := m) (show 0 < tot l by omega)
    have q0 := red_nonneg m0 (show 0 < tot l by omega)
    have q2 := red_le m0 (show 0 < tot l by omega)
    obtain ⟨gg, g0, g1, g2⟩ := red_is (a := m) (show 0 < tot l by omega)
    have hdiv : Int.tdiv (tot l) (red m (tot l)).2 = gg := by
      rw [Int.tdiv_eq_ediv_of_nonneg (by omega)]
      refine Int.ediv_eq_of_eq_mul_left (by omega) ?_
      rw [Int.mul_comm]; exact g2
    have g3 : gg ≤ tot l := by
      have := Int.mul_le_mul_of_nonneg_right (show 1 ≤ (red m (tot l)).2 by omega) (show 0 ≤ gg by omega)
      omega
    have hcl := hc.len
    have hcount : c0 = l := ext_getD hcl fun i hi => by
      rw [hc.at_ i (by omega), show t = (tot l).toNat by omega]
      exact s.round.full i (by omega)
    subst hcount
    have eF : ∀ x : Bool, (x = false) → Ev (fun k => trishawlaw01_TurnLeast.j4 k c0 (tot c0) m x (red m (tot c0)).1 (red m (tot c0)).2) true := fun x hx => by rw [hx]; exact least_j4 g hm
    refine Ev.step (fun k => by rw [trishawlaw01_TurnLeast.l1]) (ev_neg (by omega) (ev_neg (by omega) ?_))
    rw [hdiv, wrap_id (n := gg) (by omega), ← g1, wrap_id (n := m) (by omega), wrap_id (n := tot c0 - gr) (by omega)]
    refine ev_neg ?_ (Ev.bind (same_f c0 (by omega)) (ev_pos rfl ?_))
    · obtain ⟨i, hi, h⟩ := hm.great g
      have := hg i hi
      omega
    · by_cases h1 : (c0.length : Int) > 1
      · refine ev_pos h1 ?_
        have h2 : 2 ≤ c0.length := by omega
        have ht := hm.tijdeman g h2
        have a1 := mul_bd q0 (show _ ≤ (1000 : Int) by omega) (show 0 ≤ 2 * (c0.length : Int) - 2 by omega) (show 2 * (c0.length : Int) - 2 ≤ 14 by omega)
        have a2 := mul_bd (show 0 ≤ 2 * (c0.length : Int) - 3 by omega) (show 2 * (c0.length : Int) - 3 ≤ 13 by omega) (Int.le_of_lt q1) (show _ ≤ (1000 : Int) by omega)
        rw [wrap_id (n := 2 * (c0.length : Int)) (by omega), wrap_id (n := 2 * (c0.length : Int) - 3) (by omega), wrap_id (n := 2 * (c0.length : Int) - 2) (by omega)]
        refine Ev.bind (a := true) ?_ (eF _ rfl)
        rw [atMost_f (by omega) (by omega), decide_eq_true]
        · exact Ev.now _
        · refine (red_atMost (by omega)).2 ?_
          rw [Int.mul_comm]
          unfold dd at ht
          rw [show 2 * (c0.length : Int) - 3 = 2 * (c0.length : Int) - 2 - 1 by omega]
          exact ht
      · exact ev_neg h1 (eF _ rfl)
  | succ r ih =>
    intro t c0 ht hc
    have hcl := hc.len
    have hlt := s.round.lt t (by omega)
    have hv : (il σ).getD t 0 = (el σ t : Int) := il_getD σ t
    have hb : c0.getD (el σ t) 0 = (cnt (el σ) t (el σ t) : Int) := hc.at_ _ hlt
    have hb2 := cnt_le (el σ) (el σ t) t
    refine Ev.step (fun k => by rw [trishawlaw01_TurnLeast.l1]) (ev_pos (by omega) (ev_pos (by omega) (ev_pos (by omega) ?_)))
    rw [rd_nat, hv, rd_nat]
    refine ev_neg (by omega) (ev_neg (by omega) (ev_pos (by omega) (ev_pos (by omega) ?_)))
    rw [Int.toNat_natCast, wrap_id (n := c0.getD (el σ t) 0 + 1) (by omega), wrap_id (n := (t : Int) + 1) (by omega)]
    exact ih (t + 1) _ (by omega) (hc.bump hlt rfl)
theorem least_l0' {l : List Int} (g : Good l) {m : Int} (hm : IsLe l m) {σ : List Nat} (s : IsRou l m σ) : ∀ (r i : Nat) (gr : Int), i + r = l.length → (∀ j, j < i → sh l j ≤ gr) → (0 ≤ gr ∧ gr ≤ 20) →
    Ev (fun k => trishawlaw01_TurnLeast.l0 k l (tot l) (il σ) gr (List.replicate l.length 0) i (red m (tot l)).1 (red m (tot l)).2) true := by
  intro r
  have hn := g.len
  induction r with
  | zero =>
    intro i gr hi hg hg2
    refine Ev.step (fun k => by rw [trishawlaw01_TurnLeast.l0]) (ev_neg (by omega) ?_)
    exact least_l1 g hm s (fun j hj => hg j (by omega)) hg2 σ.length 0 _ (by omega) (Cs.zero _)
  | succ r ih =>
    intro i gr hi hg hg2
    have h1 := g.low i (by omega)
    have h2 := g.high i (by omega)
    refine Ev.step (fun k => by rw [trishawlaw01_TurnLeast.l0]) (ev_pos (by omega) (ev_pos (by omega) ?_))
    rw [rd_nat, wrap_id (n := (i : Int) + 1) (by omega)]
    refine ih (i + 1) (mx gr (sh l i)) (by omega) (fun j hj => ?_) (by unfold mx; split <;> omega)
    by_cases c : j = i
    · subst c; unfold mx; split <;> omega
    · have := hg j (by omega); unfold mx; split <;> omega
theorem TurnLeast : trishawlaw01_TurnLeast.Pure := by
  intro l hl _ _
  refine Ev.rounds (g := fun k => trishawlaw01_TurnLeast.f k l) ?_
  unfold trishawlaw01_TurnLeast.f
  have awake : ∀ x, Ev (fun k => trishawlaw01_TurnLeast.j0 k l x true) true := fun x => Ev.step (fun k => by rw [trishawlaw01_TurnLeast.j0]) (ev_pos rfl alive_ev')
  refine Ev.bind (Shares_f l) ?_
  by_cases h30 : (l.length : Int) > 30
  · exact ev_pos h30 (awake _)
  refine ev_neg h30 ?_
  by_cases hs : shE l = 0
  · have g := sh_good.1 hs
    rw [if_pos hs, ne_self]
    have hT := g.tot_pos
    have hT2 := g.tot_le
    have hp := g.pos
    have hn := g.len
    obtain ⟨m, hm⟩ := isLe_ex g
    have m0 := hm.nonneg g
    have m1 := hm.lt g
    obtain ⟨σ, eR, s⟩ := tround_f g hm
    have eD := Deviation_f l (il σ)
    rw [if_pos (s.sd g), s.dev g hm] at eD
    have q1 := red_pos (a := m) (show 0 < tot l by omega)
    refine Ev.step (fun k => by rw [trishawlaw01_TurnLeast.j0]) (ev_neg Bool.false_ne_true (Ev.bind (Least_good g hm) (Ev.bind eR (Ev.bind eD (ev_pos rfl (ev_pos rfl (ev_pos rfl ?_)))))))
    have e2 : Ev (fun _ => trishawlaw01_small.f (red m (tot l)).1 (red m (tot l)).2) true := by rw [small_red m0 (by omega) (by omega) (by omega)]; exact Ev.now _
    refine Ev.bind e2 (ev_pos rfl (ev_neg (by simp) (ev_neg (by show ¬ (red m (tot l)).2 = 0; omega) ?_)))
    obtain ⟨gg, g0, g1, g2⟩ := red_is (a := m) (show 0 < tot l by omega)
    have hmod : Int.tmod (tot l) (red m (tot l)).2 = 0 := by
      rw [Int.tmod_eq_emod_of_nonneg (by omega)]
      exact Int.emod_eq_zero_of_dvd ⟨gg, g2⟩
    refine ev_pos hmod ?_
    have hsl := s.len
    have hlen : ((il σ).length : Int) = tot l := by rw [il_len]; exact hsl
    rw [show (((il σ, (0 : Int)).1.length : Int) != tot l) = false by rw [hlen]; exact ne_self]
    refine Ev.step (fun k => by rw [trishawlaw01_TurnLeast.j1]) (ev_neg Bool.false_ne_true (ev_pos (by omega) (ev_pos (by rw [Int.toNat_natCast]; omega) ?_)))
    rw [Int.toNat_natCast]
    exact least_l0' g hm s l.length 0 0 (by omega) (fun j hj => by omega) ⟨by omega, by omega⟩
  · rw [if_neg hs, show (shE l != 0) = true by simpa using hs]
    exact awake _
end Go.Proofs.YtgobffgogmnmpaaDoor.Pure
