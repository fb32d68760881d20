/- The statement TurnAround, of what the walked functions compute: Fair goes around, and shorter lists are beginnings of longer ones. Conditions: none but the bounds of the law. -/
import Derived.Test.YtgobffgogmnmpaaDoorPx26
import Derived.Test.YtgobffgogmnmpaaDoorGre
import Derived.Test.YtgobffgogmnmpaaDoorFpr
import Derived.Test.YtgobffgogmnmpaaDoorMny
namespace Go.Proofs.YtgobffgogmnmpaaDoor.Pure
open Go.RowKit Go.Proofs.YtgobffgogmnmpaaDoor.P Go.Proofs.YtgobffgogmnmpaaDoorW.PrintWords Go.Proofs.YtgobffgogmnmpaaDoorW.PrintLast Go.Proofs.YtgobffgogmnmpaaDoorW.PrintMore
theorem fbt_congr {s : Nat → Int} {T d : Int} {y y' : Nat → Int} {n i : Nat} (hy : ∀ j, j < n → y j = y' j) (hi : i < n) {o : Option Nat} (ho : ∀ b, o = some b → b < n) : fbs s T d y i o = fbs s T d y' i o := by
  unfold fbs
  rw [hy i hi]
  cases o with
  | none => rfl
  | some b => unfold fbt lft; simp only [hy i hi, hy b (ho b rfl)]
theorem fbs_lt' {s : Nat → Int} {T d : Int} {y : Nat → Int} {n i : Nat} (hi : i < n) {o : Option Nat} (ho : ∀ b, o = some b → b < n) : ∀ b, fbs s T d y i o = some b → b < n := by
  intro b hb
  unfold fbs at hb
  by_cases c : d * y i < T
  · rw [if_pos c] at hb; exact ho b hb
  · rw [if_neg c] at hb
    cases o with
    | none => obtain rfl : i = b := Option.some.inj hb; exact hi
    | some b0 =>
      have hb' : (if lft T d y i * s b0 < lft T d y b0 * s i then some i else some b0) = some b := hb
      by_cases c2 : lft T d y i * s b0 < lft T d y b0 * s i
      · rw [if_pos c2] at hb'; obtain rfl : i = b := Option.some.inj hb'; exact hi
      · rw [if_neg c2] at hb'; exact ho b hb'
theorem fb_congr {s : Nat → Int} {T d : Int} {y y' : Nat → Int} {n : Nat} (hy : ∀ j, j < n → y j = y' j) : ∀ (r i : Nat) (o : Option Nat), i + r ≤ n → (∀ b, o = some b → b < n) → fb s T d y r i o = fb s T d y' r i o := by
  intro r
  induction r with
  | zero => intro i o _ _; rfl
  | succ r ih =>
    intro i o hi ho
    show fb s T d y r (i + 1) (fbs s T d y i o) = fb s T d y' r (i + 1) (fbs s T d y' i o)
    rw [← fbt_congr hy (by omega) ho]
    exact ih (i + 1) _ (by omega) (fbs_lt' (by omega) ho)
theorem pickF_congr {l : List Int} {c c' : Nat → Nat} {t t' : Nat} (h : ∀ i, i < l.length → due l c t i = due l c' t' i) : pickF l c t = pickF l c' t' := by
  unfold pickF
  rw [fb_congr h l.length 0 none (by omega) (fun b hb => by cases hb)]
/-- After the total of days Fair goes on as from the beginning. -/
theorem run_around {l : List Int} (g : Good l) : ∀ t, (∀ i, i < l.length → (run (pickF l) ((tot l).toNat + t) i : Int) = sh l i + (run (pickF l) t i : Int)) ∧ called (pickF l) ((tot l).toNat + t) = called (pickF l) t := by
  have hT := g.tot_pos
  have step : ∀ t, (∀ i, i < l.length → (run (pickF l) ((tot l).toNat + t) i : Int) = sh l i + (run (pickF l) t i : Int)) → called (pickF l) ((tot l).toNat + t) = called (pickF l) t := fun t h => pickF_congr fun i hi => by
    unfold due
    rw [h i hi, show (((tot l).toNat + t + 1 : Nat) : Int) = tot l + ((t + 1 : Nat) : Int) by omega, Int.mul_add, Int.add_mul]
    omega
  intro t
  induction t with
  | zero =>
    have h0 : ∀ i, i < l.length → (run (pickF l) ((tot l).toNat + 0) i : Int) = sh l i + (run (pickF l) 0 i : Int) := fun i hi => by
      rw [Nat.add_zero, ← cnt_called, fair_round g i hi]
      show sh l i = sh l i + ((0 : Nat) : Int)
      omega
    exact ⟨h0, step 0 h0⟩
  | succ t ih =>
    have h1 : ∀ i, i < l.length → (run (pickF l) ((tot l).toNat + (t + 1)) i : Int) = sh l i + (run (pickF l) (t + 1) i : Int) := fun i hi => by
      have e1 : run (pickF l) ((tot l).toNat + (t + 1)) = bump (run (pickF l) ((tot l).toNat + t)) (called (pickF l) ((tot l).toNat + t)) := rfl
      have e2 : run (pickF l) (t + 1) = bump (run (pickF l) t) (called (pickF l) t) := rfl
      rw [e1, e2, ih.2]
      unfold bump
      have := ih.1 i hi
      split <;> omega
    exact ⟨h1, step (t + 1) h1⟩
theorem around_l0 {l : List Int} (g : Good l) : ∀ (r t : Nat) (c0 : List Int), t + r = 400 → Cs c0 l.length (run (pickF l) (min t (tot l).toNat)) →
    Ev (fun k => trishawlaw01_TurnAround.l0 k l (tot l) (lst (called (pickF l)) 400) c0 t) true := by
  intro r
  have hl := g.len
  have hT := g.tot_pos
  have hT2 := g.tot_le
  have hll := lst_len (called (pickF l)) 400
  induction r with
  | zero =>
    intro t c0 ht hc
    have hcl := hc.len
    have hcount : c0 = l := ext_getD hcl fun i hi => by
      rw [hc.at_ i (by omega), show min t (tot l).toNat = (tot l).toNat by omega, ← cnt_called]
      exact fair_round g i (by omega)
    refine Ev.step (fun k => by rw [trishawlaw01_TurnAround.l0]) (ev_neg (by omega) ?_)
    rw [hcount]
    exact Ev.bind (same_f l (by omega)) (ev_pos rfl alive_ev')
  | succ r ih =>
    intro t c0 ht hc
    have hcl := hc.len
    have hlt := fair_lt g t
    have hv := lst_getD (called (pickF l)) (show t < 400 by omega)
    have j4 : Ev (fun k => trishawlaw01_TurnAround.j4 k l (tot l) (lst (called (pickF l)) 400) c0 t false) true := by
      refine Ev.step (fun k => by rw [trishawlaw01_TurnAround.j4]) (ev_neg Bool.false_ne_true ?_)
      rw [rd_nat, hv, rd_nat, wrap_id (n := (t : Int) + 1) (by omega), show (t : Int) + 1 = ((t + 1 : Nat) : Int) by omega]
      by_cases c : (t : Int) < tot l
      · rw [show min t (tot l).toNat = t by omega] at hc
        have hb : c0.getD (called (pickF l) t) 0 = _ := hc.at_ _ hlt
        have hb2 := run_le (pickF l) t (called (pickF l) t)
        refine ev_pos c (ev_pos (by omega) (ev_pos (by omega) (ev_pos (by omega) (ev_pos (by omega) ?_))))
        rw [Int.toNat_natCast, wrap_id (n := c0.getD _ 0 + 1) (by omega)]
        refine ih (t + 1) _ (by omega) ?_
        rw [show min (t + 1) (tot l).toNat = t + 1 by omega]
        exact hc.bump hlt rfl
      · refine ev_neg c (ih (t + 1) c0 (by omega) ?_)
        rw [show min (t + 1) (tot l).toNat = min t (tot l).toNat by omega]
        exact hc
    refine Ev.step (fun k => by rw [trishawlaw01_TurnAround.l0]) (ev_pos (by omega) (ev_pos (by omega) ?_))
    rw [rd_nat, hv]
    refine ev_neg (by omega) (ev_neg (by omega) ?_)
    by_cases c : (t : Int) ≥ tot l
    · have e := (run_around g (t - (tot l).toNat)).2
      rw [show (tot l).toNat + (t - (tot l).toNat) = t by omega] at e
      rw [wrap_id (n := (t : Int) - tot l) (by omega), show (t : Int) - tot l = ((t - (tot l).toNat : Nat) : Int) by omega, rd_nat, lst_getD (called (pickF l)) (show t - (tot l).toNat < 400 by omega), e, neq_self]
      exact ev_pos c (ev_pos (by omega) (ev_pos (by omega) j4))
    · exact ev_neg c j4
theorem TurnAround : trishawlaw01_TurnAround.Pure := by
  intro l a _ _ _ ha
  refine Ev.rounds (g := fun k => trishawlaw01_TurnAround.f k l a) ?_
  unfold trishawlaw01_TurnAround.f
  have awake : ∀ x, Ev (fun k => trishawlaw01_TurnAround.j0 k l a x true) true := fun x => Ev.step (fun k => by rw [trishawlaw01_TurnAround.j0]) (ev_pos rfl alive_ev')
  refine Ev.bind (Shares_f l) ?_
  by_cases h30 : (l.length : Int) > 30
  · exact ev_pos h30 (awake _)
  refine ev_neg h30 ?_
  by_cases hs : shE l = 0
  · have g := sh_good.1 hs
    have hl := g.len
    rw [if_pos hs, neq_self]
    obtain ⟨n, hn, hn4⟩ := many_of ha
    have hm : maE l (n : Int) = 0 := ma_ok.2 ⟨g, by omega, by omega⟩
    have hm4 : maE l 400 = 0 := ma_ok.2 ⟨g, by omega, by omega⟩
    have hF := Fair_f l (n : Int)
    have hG := Greedy_f l (n : Int)
    have hF4 := Fair_f l 400
    have hG4 := Greedy_f l 400
    rw [if_pos hm, Int.toNat_natCast] at hF hG
    rw [if_pos hm4] at hF4 hG4
    have e4 : (400 : Int).toNat = 400 := rfl
    rw [e4] at hF4 hG4
    have LF : ∀ m, ((lst (called (pickF l)) m).length : Int) = (m : Int) := fun m => congrArg _ (lst_len _ m)
    have LG : ∀ m, ((lst (called (pickG l)) m).length : Int) = (m : Int) := fun m => congrArg _ (lst_len _ m)
    have lf := LF 400
    have lg := LG 400
    have lfn := LF n
    have lgn := LG n
    refine Ev.step (fun k => by rw [trishawlaw01_TurnAround.j0]) (ev_neg Bool.false_ne_true (Ev.bind hF4 (Ev.bind hG4 (ev_pos rfl (ev_pos rfl (ev_pos lf ?_))))))
    rw [show (((lst (called (pickG l)) 400, (0 : Int)).1.length : Int) != 400) = false by rw [show (((lst (called (pickG l)) 400, (0 : Int)).1.length : Int)) = 400 from lg]; rfl]
    refine Ev.step (fun k => by rw [trishawlaw01_TurnAround.j1]) (ev_neg Bool.false_ne_true ?_)
    rw [hn]
    refine Ev.bind hF (Ev.bind hG (ev_pos rfl (ev_pos rfl (ev_pos (by omega) (ev_pos (show ((n : Int)) ≤ ((lst (called (pickF l)) 400).length : Int) by omega) ?_)))))
    rw [Int.toNat_natCast, lst_take (called (pickF l)) hn4, lst_take (called (pickG l)) hn4]
    refine Ev.bind (same_f _ (show (lst (called (pickF l)) n).length < 4611686018427387904 by omega)) (ev_pos rfl (ev_pos (show ((n : Int)) ≤ ((lst (called (pickG l)) 400).length : Int) by omega) (Ev.bind (same_f _ (show (lst (called (pickG l)) n).length < 4611686018427387904 by omega)) ?_)))
    refine Ev.step (fun k => by rw [trishawlaw01_TurnAround.j2]) (ev_neg (by decide) (ev_pos (by omega) (ev_pos (by rw [Int.toNat_natCast]; omega) ?_)))
    rw [Int.toNat_natCast]
    exact around_l0 g 400 0 _ (by omega) (by rw [Nat.zero_min]; exact Cs.zero _)
  · rw [if_neg hs, show (shE l != 0) = true by simpa using hs]
    exact awake _
end Go.Proofs.YtgobffgogmnmpaaDoor.Pure
