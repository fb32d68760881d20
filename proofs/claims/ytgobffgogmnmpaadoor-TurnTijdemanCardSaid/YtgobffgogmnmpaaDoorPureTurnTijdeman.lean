/- The statement TurnTijdeman, of what the walked functions compute: Fair keeps the bound. Conditions: none but the bounds of the law. -/
import Derived.Test.YtgobffgogmnmpaaDoorPx9
import Derived.Test.YtgobffgogmnmpaaDoorPx16
import Derived.Test.YtgobffgogmnmpaaDoorPx21
import Derived.Test.YtgobffgogmnmpaaDoorFdv
namespace Go.Proofs.YtgobffgogmnmpaaDoor.Pure
open Go.RowKit Go.Proofs.YtgobffgogmnmpaaDoor.P Go.Proofs.YtgobffgogmnmpaaDoorW.PrintWords Go.Proofs.YtgobffgogmnmpaaDoorW.PrintLast Go.Proofs.YtgobffgogmnmpaaDoorW.PrintMore
theorem ne_self {a : Int} : (a != a) = false := by simp
theorem u16_bd {a : Int} (h : (Lit.int .u16 a).wf = true) : 0 ≤ a ∧ a < 65536 := by
  have h1 : IntKind.u16.min ≤ a ∧ a ≤ IntKind.u16.max := by simpa [Lit.wf] using h
  have e0 : IntKind.u16.min = 0 := rfl
  have e1 : IntKind.u16.max = 65535 := rfl
  omega
theorem many_is {a : Int} (h : (Lit.int .u16 a).wf = true) : ∃ n : Nat, Int.tmod (wrap64 a) 401 = (n : Int) ∧ n ≤ 400 := by
  have hb := u16_bd h
  rw [wrap_id (by omega), Int.tmod_eq_emod_of_nonneg hb.1]
  exact ⟨(a % 401).toNat, by omega, by omega⟩
theorem TurnTijdeman : trishawlaw01_TurnTijdeman.Pure := by
  intro l a hl _ _ ha
  refine Ev.rounds (g := fun k => trishawlaw01_TurnTijdeman.f k l a) ?_
  unfold trishawlaw01_TurnTijdeman.f
  have awake : Ev (fun k => trishawlaw01_TurnTijdeman.j0 k l a true) true := Ev.step (fun k => by rw [trishawlaw01_TurnTijdeman.j0]) (ev_pos rfl alive_ev')
  refine Ev.bind (Shares_f l) ?_
  by_cases h30 : (l.length : Int) > 30
  · exact ev_pos h30 awake
  refine ev_neg h30 ?_
  by_cases hs : shE l = 0
  · have g := sh_good.1 hs
    rw [if_pos hs, ne_self]
    obtain ⟨n, hn, hn4⟩ := many_is ha
    have hm : maE l (n : Int) = 0 := ma_ok.2 ⟨g, by omega, by omega⟩
    have hF : Ev (fun k => turn_Fair.f k l (n : Int)) (lst (called (pickF l)) n, 0) := by
      have := Fair_f l (n : Int)
      rwa [if_pos hm, Int.toNat_natCast] at this
    have hsd := fair_sd g hn4
    have hD := Deviation_f l (lst (called (pickF l)) n)
    have hQ := Quota_f l (lst (called (pickF l)) n)
    rw [if_pos hsd] at hD hQ
    rw [decide_eq_true (fair_devq g n)] at hQ
    have hT := g.tot_pos
    have hT2 := g.tot_le
    have hp := g.pos
    have hq := fair_devq g n
    refine Ev.step (fun k => by rw [trishawlaw01_TurnTijdeman.j0]) (ev_neg Bool.false_ne_true ?_)
    rw [hn]
    refine Ev.bind hF (Ev.bind hD (Ev.bind hQ (ev_pos rfl (ev_pos rfl (ev_pos rfl ?_)))))
    rw [small_red (dev_nonneg _ _) (by omega) (by omega) (by omega), lst_len, ne_self]
    refine Ev.bind (Ev.now _) (ev_pos rfl (ev_pos rfl ?_))
    refine Ev.step (fun k => by rw [trishawlaw01_TurnTijdeman.j1]) (ev_neg Bool.false_ne_true ?_)
    by_cases h1 : l.length = 1
    · refine ev_pos (by omega) (ev_pos ?_ alive_ev')
      rw [fair_dev1 h1]
      show (0 : Int) / _ = 0
      exact Int.zero_ediv _
    · refine ev_neg (by omega) ?_
      have hd := fair_dev g (by omega) n
      have hn8 := g.len
      have hr := red_le (dev_nonneg l (lst (called (pickF l)) n)) (show 0 < tot l by omega)
      have hr0 := red_nonneg (dev_nonneg l (lst (called (pickF l)) n)) (show 0 < tot l by omega)
      have hr1 := red_pos (a := dev l (lst (called (pickF l)) n)) (show 0 < tot l by omega)
      have m1 := mul_bd hr0 (show _ ≤ (160 : Int) by omega) (show 0 ≤ 2 * (l.length : Int) - 2 by omega) (show 2 * (l.length : Int) - 2 ≤ 14 by omega)
      have m2 := mul_bd (show 0 ≤ 2 * (l.length : Int) - 3 by omega) (show 2 * (l.length : Int) - 3 ≤ 13 by omega) (Int.le_of_lt hr1) (show _ ≤ (160 : Int) by omega)
      rw [wrap_id (n := 2 * (l.length : Int)) (by omega), wrap_id (n := 2 * (l.length : Int) - 3) (by omega), wrap_id (n := 2 * (l.length : Int) - 2) (by omega)]
      refine Ev.bind (a := true) ?_ (ev_pos rfl alive_ev')
      show Ev (fun _ => trishawlaw01_atMost.f (red (dev l (lst (called (pickF l)) n)) (tot l)).1 (red (dev l (lst (called (pickF l)) n)) (tot l)).2 (2 * (l.length : Int) - 3) (2 * (l.length : Int) - 2)) true
      rw [atMost_f (by omega) (by omega), decide_eq_true ((red_atMost (by omega)).2 (by
        rw [Int.mul_comm]
        unfold dd at hd
        rw [show 2 * (l.length : Int) - 3 = 2 * (l.length : Int) - 2 - 1 by omega]
        exact hd))]
      exact Ev.now _
  · rw [if_neg hs, show (shE l != 0) = true by simpa using hs]
    exact awake
end Go.Proofs.YtgobffgogmnmpaaDoor.Pure
