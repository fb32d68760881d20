/- The statement TurnLags, of what the walked functions compute: Greedy calls who is owed most. Conditions: none but the bounds of the law. -/
import Derived.Test.YtgobffgogmnmpaaDoorPx27
import Derived.Test.YtgobffgogmnmpaaDoorGre
import Derived.Test.YtgobffgogmnmpaaDoorMny
namespace Go.Proofs.YtgobffgogmnmpaaDoor.Pure
open Go.RowKit Go.Proofs.YtgobffgogmnmpaaDoor.P Go.Proofs.YtgobffgogmnmpaaDoorW.PrintWords Go.Proofs.YtgobffgogmnmpaaDoorW.PrintLast Go.Proofs.YtgobffgogmnmpaaDoorW.PrintMore
theorem due_law {l : List Int} (g : Good l) {c : Nat → Nat} {t i : Nat} (ht : t ≤ 500) (hi : i < l.length) (hc : c i ≤ t) {x : Int} (hx : x = (c i : Int)) :
    wrap64 (wrap64 (((t + 1 : Nat) : Int) * l.getD i 0) - wrap64 (x * tot l)) = due l c t i := by
  obtain ⟨h1, h2, h3, h4⟩ := due_bd g ht hi hc
  subst hx
  rw [show l.getD i 0 = sh l i from rfl, Int.mul_comm ((t + 1 : Nat) : Int), wrap_id (n := sh l i * _) (by omega), wrap_id (n := (c i : Int) * tot l) (by omega), wrap_id (by omega)]
  rfl
theorem lags_l1 {l : List Int} (g : Good l) {n t : Nat} (hn : n ≤ 400) (ht : t < n) {c0 : List Int} (hc : Cs c0 l.length (run (pickG l) t))
    (next : Ev (fun k => trishawlaw01_TurnLags.l0 k l (tot l) (lst (called (pickG l)) n) (c0.set (called (pickG l) t) (c0.getD (called (pickG l) t) 0 + 1)) ((t + 1 + 1 : Nat) : Int)) true) :
    ∀ (d i : Nat), i + d = l.length → Ev (fun k => trishawlaw01_TurnLags.l1 k l (tot l) (lst (called (pickG l)) n) c0 ((t + 1 : Nat) : Int) (called (pickG l) t : Int) i) true := by
  intro d
  have hl := g.len
  have hcl := hc.len
  have hlt : called (pickG l) t < l.length := pickG_lt g _ t
  have hb : c0.getD (called (pickG l) t) 0 = _ := hc.at_ _ hlt
  have hb2 := run_le (pickG l) t (called (pickG l) t)
  induction d with
  | zero =>
    intro i hi
    refine Ev.step (fun k => by rw [trishawlaw01_TurnLags.l1]) (ev_neg (by omega) (ev_pos (by omega) (ev_pos (by omega) ?_)))
    rw [Int.toNat_natCast, rd_nat, wrap_id (n := c0.getD _ 0 + 1) (by omega), wrap_id (n := ((t + 1 : Nat) : Int) + 1) (by omega), show ((t + 1 : Nat) : Int) + 1 = ((t + 1 + 1 : Nat) : Int) by omega]
    exact next
  | succ d ih =>
    intro i hi
    have hil : i < l.length := by omega
    have hp := pickG_is g (run (pickG l) t) t i hil
    have hp' : due l (run (pickG l) t) t i ≤ due l (run (pickG l) t) t (called (pickG l) t) ∧ (i < called (pickG l) t → due l (run (pickG l) t) t i < due l (run (pickG l) t) t (called (pickG l) t)) := hp
    refine Ev.step (fun k => by rw [trishawlaw01_TurnLags.l1]) (ev_pos (by omega) (ev_pos (by omega) (ev_pos (by omega) (ev_pos (by omega) (ev_pos (by omega) (ev_pos (by omega) ?_))))))
    rw [rd_nat, rd_nat, rd_nat, rd_nat, due_law g (by omega) hil (run_le _ _ _) (hc.at_ i hil), due_law g (by omega) hlt (run_le _ _ _) (hc.at_ _ hlt), wrap_id (n := (i : Int) + 1) (by omega)]
    refine ev_neg (by omega) ?_
    by_cases c : due l (run (pickG l) t) t i = due l (run (pickG l) t) t (called (pickG l) t)
    · refine ev_pos c (ev_neg (fun h => ?_) (ih (i + 1) (by omega)))
      have := hp'.2 (by omega)
      omega
    · exact ev_neg c (ih (i + 1) (by omega))
theorem lags_l0 {l : List Int} (g : Good l) {n : Nat} (hn : n ≤ 400) : ∀ (d t : Nat) (c0 : List Int), t + d = n → Cs c0 l.length (run (pickG l) t) →
    Ev (fun k => trishawlaw01_TurnLags.l0 k l (tot l) (lst (called (pickG l)) n) c0 ((t + 1 : Nat) : Int)) true := by
  intro d
  have hl := g.len
  induction d with
  | zero =>
    intro t c0 ht hc
    have hll := lst_len (called (pickG l)) n
    exact Ev.step (fun k => by rw [trishawlaw01_TurnLags.l0]) (ev_neg (by omega) alive_ev')
  | succ d ih =>
    intro t c0 ht hc
    have hll := lst_len (called (pickG l)) n
    have hlt : called (pickG l) t < l.length := pickG_lt g _ t
    have hv := lst_getD (called (pickG l)) (show t < n by omega)
    refine Ev.step (fun k => by rw [trishawlaw01_TurnLags.l0]) (ev_pos (by omega) ?_)
    rw [wrap_id (n := ((t + 1 : Nat) : Int) - 1) (by omega), show ((t + 1 : Nat) : Int) - 1 = (t : Int) by omega, rd_nat, hv]
    refine ev_pos (by omega) (ev_pos (by omega) (ev_neg (by omega) ?_))
    rw [decide_eq_false (show ¬ (called (pickG l) t : Int) ≥ (l.length : Int) by omega)]
    refine Ev.step (fun k => by rw [trishawlaw01_TurnLags.j3]) (ev_neg Bool.false_ne_true ?_)
    exact lags_l1 g hn (by omega) hc (ih (t + 1) _ (by omega) (hc.bump hlt rfl)) l.length 0 (by omega)
theorem TurnLags : trishawlaw01_TurnLags.Pure := by
  intro l a _ _ _ ha
  refine Ev.rounds (g := fun k => trishawlaw01_TurnLags.f k l a) ?_
  unfold trishawlaw01_TurnLags.f
  have awake : ∀ x, Ev (fun k => trishawlaw01_TurnLags.j0 k l a x true) true := fun x => Ev.step (fun k => by rw [trishawlaw01_TurnLags.j0]) (ev_pos rfl alive_ev')
  refine Ev.bind (Shares_f l) ?_
  by_cases h30 : (l.length : Int) > 30
  · exact ev_pos h30 (awake _)
  refine ev_neg h30 ?_
  by_cases hs : shE l = 0
  · have g := sh_good.1 hs
    have hl := g.len
    rw [if_pos hs, neq_self]
    obtain ⟨n, hn, hn4⟩ := many_of ha
    have hm : maE l (n : Int) = 0 := ma_ok.2 ⟨g, by omega, by omega⟩
    have hG := Greedy_f l (n : Int)
    rw [if_pos hm, Int.toNat_natCast] at hG
    refine Ev.step (fun k => by rw [trishawlaw01_TurnLags.j0]) (ev_neg Bool.false_ne_true ?_)
    rw [hn]
    refine Ev.bind hG (ev_pos rfl ?_)
    rw [show (((lst (called (pickG l)) n, (0 : Int)).1.length : Int) != (n : Int)) = false by rw [lst_len]; exact neq_self]
    refine Ev.step (fun k => by rw [trishawlaw01_TurnLags.j1]) (ev_neg Bool.false_ne_true (ev_pos (by omega) (ev_pos (by rw [Int.toNat_natCast]; omega) ?_)))
    rw [Int.toNat_natCast]
    exact lags_l0 g hn4 n 0 _ (by omega) (Cs.zero _)
  · rw [if_neg hs, show (shE l != 0) = true by simpa using hs]
    exact awake _
end Go.Proofs.YtgobffgogmnmpaaDoor.Pure
