/- What the program's Fair answers. Conditions: none but sizes. -/
import Derived.Test.YtgobffgogmnmpaaDoorPx8
import Derived.Test.YtgobffgogmnmpaaDoorPx9
import Derived.Test.YtgobffgogmnmpaaDoorFar
namespace Go.Proofs.YtgobffgogmnmpaaDoor.Pure
open Go.RowKit Go.Proofs.YtgobffgogmnmpaaDoor.P Go.Proofs.YtgobffgogmnmpaaDoorW.PrintWords Go.Proofs.YtgobffgogmnmpaaDoorW.PrintLast Go.Proofs.YtgobffgogmnmpaaDoorW.PrintMore

theorem mul_abs {a b A B : Int} (hA : 0 ≤ A) (a0 : -A ≤ a) (a1 : a ≤ A) (b0 : 0 ≤ b) (b1 : b ≤ B) : -(A * B) ≤ a * b ∧ a * b ≤ A * B := by
  have h1 : a * b ≤ A * b := Int.mul_le_mul_of_nonneg_right a1 b0
  have h2 : -A * b ≤ a * b := Int.mul_le_mul_of_nonneg_right a0 b0
  have h3 : A * b ≤ A * B := Int.mul_le_mul_of_nonneg_left b1 hA
  rw [Int.neg_mul] at h2
  omega
theorem dd_bd {l : List Int} (g : Good l) : 0 ≤ dd l ∧ dd l ≤ 14 := by have := g.len; have := g.pos; unfold dd; omega
/-- The numbers of Fair's search are small. -/
theorem fair_bd {l : List Int} (g : Good l) {c : Nat → Nat} {t i : Nat} (ht : t ≤ 500) (hi : i < l.length) (hc : c i ≤ t) :
    -160000 ≤ due l c t i ∧ due l c t i ≤ 160000 ∧ -2240000 ≤ dd l * due l c t i ∧ dd l * due l c t i ≤ 2240000 ∧ -160 ≤ (dd l - 1) * tot l ∧ (dd l - 1) * tot l ≤ 2080 := by
  obtain ⟨h1, h2, h3, h4⟩ := due_bd g ht hi hc
  have hd := dd_bd g
  have hy : -160000 ≤ due l c t i ∧ due l c t i ≤ 160000 := by unfold due; omega
  have h5 := mul_abs (a := due l c t i) (b := dd l) (A := 160000) (B := 14) (by omega) hy.1 hy.2 hd.1 hd.2
  rw [Int.mul_comm (due l c t i)] at h5
  have h6 := mul_bd (a := dd l) (b := tot l) (A := 14) (B := 160) hd.1 hd.2 (by have := g.tot_pos; omega) g.tot_le
  have e : (dd l - 1) * tot l = dd l * tot l - tot l := by rw [Int.sub_mul]; omega
  have := g.tot_le
  have := g.tot_pos
  refine ⟨hy.1, hy.2, by omega, by omega, by omega, ?_⟩
  by_cases hz : 1 ≤ dd l
  · have h7 := mul_bd (a := dd l - 1) (b := tot l) (A := 13) (B := 160) (by omega) (by omega) (by omega) (by omega)
    omega
  · have : dd l = 0 := by omega
    rw [this]; omega
def lef (l : List Int) (c : Nat → Nat) (t : Nat) : Option Nat → Int
  | none => 0
  | some b => lft (tot l) (dd l) (due l c t) b
theorem lef_bd {l : List Int} (g : Good l) {c : Nat → Nat} {t : Nat} (ht : t ≤ 500) (hc : ∀ i, c i ≤ t) {o : Option Nat} (ho : ∀ b, o = some b → b < l.length) : -2300000 ≤ lef l c t o ∧ lef l c t o ≤ 2300000 := by
  cases o with
  | none => show (-2300000 : Int) ≤ 0 ∧ (0 : Int) ≤ 2300000; omega
  | some b =>
    have := fair_bd g ht (ho b rfl) (hc b)
    show -2300000 ≤ (dd l - 1) * tot l - dd l * due l c t b ∧ (dd l - 1) * tot l - dd l * due l c t b ≤ 2300000
    omega
theorem fbs_lt {l : List Int} {c : Nat → Nat} {t i : Nat} (hi : i < l.length) {o : Option Nat} (ho : ∀ b, o = some b → b < l.length) : ∀ b, fbs (sh l) (tot l) (dd l) (due l c t) i o = some b → b < l.length := by
  intro b hb
  unfold fbs at hb
  split at hb
  · exact ho b hb
  · cases o with
    | none => obtain rfl : i = b := Option.some.inj hb; exact hi
    | some b0 =>
      have hb' : (if lft (tot l) (dd l) (due l c t) i * sh l b0 < lft (tot l) (dd l) (due l c t) b0 * sh l i then some i else some b0) = some b := hb
      by_cases c2 : lft (tot l) (dd l) (due l c t) i * sh l b0 < lft (tot l) (dd l) (due l c t) b0 * sh l i
      · rw [if_pos c2] at hb'; obtain rfl : i = b := Option.some.inj hb'; exact hi
      · rw [if_neg c2] at hb'; exact ho b hb'
theorem fair_l0 {l : List Int} (g : Good l) (h2 : 2 ≤ l.length) {c : Nat → Nat} {t : Nat} (ht : t ≤ 500) {cl : List Int} (hc : Cs cl l.length c) (hct : ∀ i, c i ≤ t) : ∀ (r i : Nat) (o : Option Nat), i + r = l.length → (∀ b, o = some b → b < l.length) →
    Ev (fun k => turn_Fair_1.l0 k ((t + 1 : Nat) : Int) (dd l) (o.getD 0 : Nat) (lef l c t o) o.isSome cl cl.length i l (tot l)) (((fb (sh l) (tot l) (dd l) (due l c t) r i o).getD 0 : Nat) : Int) := by
  intro r
  have hn := g.len
  have hcl := hc.len
  have hd := dd_bd g
  have hd2 : 2 ≤ dd l := by unfold dd; omega
  induction r with
  | zero =>
    intro i o hi ho
    show Ev _ ((o.getD 0 : Nat) : Int)
    exact Ev.step (fun k => by rw [turn_Fair_1.l0]) (ev_neg (by omega) (Ev.now _))
  | succ r ih =>
    intro i o hi ho
    have hb := fair_bd g (c := c) ht (show i < l.length by omega) (hct i)
    have h := ih (i + 1) (fbs (sh l) (tot l) (dd l) (due l c t) i o) (by omega) (fbs_lt (by omega) ho)
    refine Ev.step (fun k => by rw [turn_Fair_1.l0]) (ev_pos (by omega) (ev_pos (by omega) (ev_pos (by omega) ?_)))
    rw [rd_nat, owed_due g ht (by omega) (hct i) (hc.at_ i (by omega))]
    refine Ev.bind (Ev.now _) (ev_neg (by omega) ?_)
    rw [wrap_id (n := dd l * due l c t i) (by omega)]
    show Ev _ (((fb (sh l) (tot l) (dd l) (due l c t) r (i + 1) (fbs (sh l) (tot l) (dd l) (due l c t) i o)).getD 0 : Nat) : Int)
    have e1 : wrap64 (wrap64 (dd l - 1) * tot l) = (dd l - 1) * tot l := by rw [wrap_id (n := dd l - 1) (by omega), wrap_id (by omega)]
    have e2 : wrap64 (wrap64 (wrap64 (dd l - 1) * tot l) - dd l * due l c t i) = lft (tot l) (dd l) (due l c t) i := by rw [e1, wrap_id (by omega)]; rfl
    unfold fbs at h ⊢
    by_cases c1 : dd l * due l c t i < tot l
    · rw [if_pos c1] at h ⊢
      rw [decide_eq_true c1]
      refine Ev.step (fun k => by rw [turn_Fair_1.j1]) ?_
      rw [wrap_id (n := (i : Int) + 1) (by omega)]
      exact ev_pos rfl h
    · rw [if_neg c1] at h ⊢
      rw [decide_eq_false c1]
      refine Ev.step (fun k => by rw [turn_Fair_1.j1]) ?_
      rw [wrap_id (n := (i : Int) + 1) (by omega), e2]
      refine ev_neg Bool.false_ne_true ?_
      cases o with
      | none =>
        refine ev_neg Bool.false_ne_true ?_
        exact h
      | some b =>
        have hbl := ho b rfl
        have hlb := lef_bd g ht hct (o := some b) ho
        have hli := lef_bd g ht hct (o := some i) (fun b hb => by cases hb; omega)
        have sb := g.low b hbl
        have sb2 := g.high b hbl
        have si := g.low i (by omega)
        have si2 := g.high i (by omega)
        have m1 := mul_abs (a := lft (tot l) (dd l) (due l c t) i) (b := sh l b) (A := 2300000) (B := 20) (by omega) hli.1 hli.2 (by omega) (by omega)
        have m2 := mul_abs (a := lft (tot l) (dd l) (due l c t) b) (b := sh l i) (A := 2300000) (B := 20) (by omega) hlb.1 hlb.2 (by omega) (by omega)
        refine ev_pos rfl (ev_pos (by omega) (ev_pos (by show ((b : Nat) : Int) < _; omega) (ev_pos (by omega) (ev_pos (by omega) ?_))))
        have r1 : rd l (((some b).getD 0 : Nat) : Int) = sh l b := rd_nat l b
        have r2 : rd l (i : Int) = sh l i := rd_nat l i
        rw [r1, r2, show lef l c t (some b) = lft (tot l) (dd l) (due l c t) b from rfl, wrap_id (n := lft (tot l) (dd l) (due l c t) i * sh l b) (by omega), wrap_id (n := lft (tot l) (dd l) (due l c t) b * sh l i) (by omega)]
        unfold fbt at h ⊢
        by_cases c2 : lft (tot l) (dd l) (due l c t) i * sh l b < lft (tot l) (dd l) (due l c t) b * sh l i
        · simp only [if_pos c2] at h ⊢
          exact h
        · simp only [if_neg c2] at h ⊢
          exact h
theorem fair_zero {l : List Int} (g : Good l) (h1 : l.length = 1) {c : Nat → Nat} {t : Nat} (ht : t ≤ 500) {cl : List Int} (hc : Cs cl l.length c) (hct : ∀ i, c i ≤ t) :
    Ev (fun k => turn_Fair_1.l0 k ((t + 1 : Nat) : Int) 0 0 0 false cl cl.length 0 l (tot l)) 0 := by
  have hcl := hc.len
  have hb := fair_bd g (c := c) ht (show 0 < l.length by omega) (hct 0)
  refine Ev.step (fun k => by rw [turn_Fair_1.l0]) (ev_pos (by omega) (ev_pos (by omega) (ev_pos (by omega) ?_)))
  have e := owed_due g ht (show 0 < l.length by omega) (hct 0) (hc.at_ 0 (by omega))
  have r0 : rd cl (0 : Int) = cl.getD 0 0 := rd_nat cl 0
  rw [r0, show turn_table_owed.f l (tot l) 0 ((t + 1 : Nat) : Int) (cl.getD 0 0) = some (due l c t 0) from e]
  refine Ev.bind (Ev.now _) (ev_pos rfl ?_)
  refine Ev.step (fun k => by rw [turn_Fair_1.j1]) (ev_pos rfl ?_)
  refine Ev.step (fun k => by rw [turn_Fair_1.l0]) (ev_neg ?_ (Ev.now _))
  rw [wrap_id (by omega)]; omega
theorem fair_pick {l : List Int} (g : Good l) {c : Nat → Nat} {t : Nat} (ht : t ≤ 500) {cl : List Int} (hc : Cs cl l.length c) (hct : ∀ i, c i ≤ t) : Ev (fun k => turn_Fair_1.f k l (tot l) ((t + 1 : Nat) : Int) cl) (pickF l c t : Int) := by
  unfold turn_Fair_1.f
  have hn := g.len
  have hp := g.pos
  have e : wrap64 (wrap64 (2 * (cl.length : Int)) - 2) = dd l := by rw [hc.len, wrap_id (n := 2 * _) (by omega), wrap_id (by omega)]; rfl
  rw [e]
  by_cases h1 : l.length = 1
  · rw [show pickF l c t = 0 from if_pos h1, show dd l = 0 by unfold dd; omega]
    exact fair_zero g h1 ht hc hct
  · rw [show pickF l c t = (fb (sh l) (tot l) (dd l) (due l c t) l.length 0 none).getD 0 from if_neg h1]
    exact fair_l0 g (by omega) ht hc hct l.length 0 none (by omega) (fun b hb => by cases hb)
theorem calledF_l0 {l : List Int} (g : Good l) {many : Nat} (hm : many ≤ 400) : ∀ (d t : Nat) (cl : List Int), t + d = many → Cs cl l.length (run (pickF l) t) →
    Ev (fun k => turn_called_F.l0 k cl (lst (called (pickF l)) t) many t l (tot l)) (lst (called (pickF l)) many, 0) := by
  intro d
  have hn := g.len
  induction d with
  | zero =>
    intro t cl ht hc
    obtain rfl : t = many := by omega
    exact Ev.step (fun k => by rw [turn_called_F.l0]) (ev_neg (by omega) (Ev.now _))
  | succ d ih =>
    intro t cl ht hc
    have hcl := hc.len
    have hlt := pickF_lt g (run (pickF l) t) t
    have hb : cl.getD (pickF l (run (pickF l) t) t) 0 = _ := hc.at_ _ hlt
    have hb2 := run_le (pickF l) t (pickF l (run (pickF l) t) t)
    have h := ih (t + 1) (cl.set (pickF l (run (pickF l) t) t) (cl.getD (pickF l (run (pickF l) t) t) 0 + 1)) (by omega) (hc.bump hlt rfl)
    rw [lst_succ] at h
    refine Ev.step (fun k => by rw [turn_called_F.l0]) (ev_pos (by omega) ?_)
    rw [wrap_id (n := (t : Int) + 1) (by omega), show (t : Int) + 1 = ((t + 1 : Nat) : Int) by omega]
    refine Ev.bind (fair_pick g (by omega) hc (run_le _ _)) (ev_pos (by omega) (ev_pos (by omega) (ev_pos (by rw [lst_len]; omega) ?_)))
    rw [Int.toNat_natCast, rd_nat, wrap_id (n := cl.getD _ 0 + 1) (by omega)]
    exact h
theorem calledF_f (l : List Int) (many : Int) : Ev (fun k => turn_called_F.f k l many) (if maE l many = 0 then (lst (called (pickF l)) many.toNat, 0) else ([], maE l many)) := by
  unfold turn_called_F.f
  by_cases hs : shE l = 0
  · have g := sh_good.1 hs
    have hn := g.len
    refine Ev.bind (read_good g) (ev_pos rfl ?_)
    by_cases c1 : many < 0
    · have e : maE l many = 2 := by unfold maE; rw [if_pos hs, if_pos (.inl c1)]
      rw [e]; exact ev_pos c1 (Ev.now _)
    refine ev_neg c1 ?_
    by_cases c2 : many > 400
    · have e : maE l many = 2 := by unfold maE; rw [if_pos hs, if_pos (.inr c2)]
      rw [e]; exact ev_pos c2 (Ev.now _)
    have e : maE l many = 0 := ma_ok.2 ⟨g, by omega, by omega⟩
    rw [if_pos e]
    obtain ⟨m, rfl⟩ := Int.eq_ofNat_of_zero_le (show 0 ≤ many by omega)
    refine ev_neg c2 (ev_pos (by omega) (ev_pos (by rw [Int.toNat_natCast]; omega) ?_))
    rw [Int.toNat_natCast, Int.toNat_natCast]
    exact calledF_l0 g (by omega) m 0 _ (by omega) (Cs.zero _)
  · have e : maE l many = shE l := if_neg hs
    rw [e, if_neg hs]
    exact Ev.bind (read_bad hs) (ev_neg hs (Ev.now _))
theorem Fair_f (l : List Int) (many : Int) : Ev (fun k => turn_Fair.f k l many) (if maE l many = 0 then (lst (called (pickF l)) many.toNat, 0) else ([], maE l many)) := by
  unfold turn_Fair.f
  exact Ev.bind (calledF_f l many) (Ev.now _)
end Go.Proofs.YtgobffgogmnmpaaDoor.Pure
