/- What the document answers to Greedy and Fair. Conditions: none but sizes. -/
import Derived.Test.YtgobffgogmnmpaaDoorPx23
import Derived.Test.YtgobffgogmnmpaaDoorPx24
import Derived.Test.YtgobffgogmnmpaaDoorGre
import Derived.Test.YtgobffgogmnmpaaDoorFpr
namespace Go.Proofs.YtgobffgogmnmpaaDoor.Pure
open Go.RowKit Go.Proofs.YtgobffgogmnmpaaDoor.P Go.Proofs.YtgobffgogmnmpaaDoorW.PrintWords Go.Proofs.YtgobffgogmnmpaaDoorW.PrintLast Go.Proofs.YtgobffgogmnmpaaDoorW.PrintMore

theorem many_f (l : List Int) (many : Int) : Ev (fun k => trishawref01_many.f k l many) (if maE l many = 0 then (tot l, 0) else (0, maE l many)) := by
  unfold trishawref01_many.f
  refine Ev.bind (Shares_f l) ?_
  by_cases hs : shE l = 0
  · have g := sh_good.1 hs
    rw [if_pos hs]
    refine ev_pos rfl ?_
    by_cases c1 : many < 0
    · have e : maE l many = 2 := by unfold maE; rw [if_pos hs, if_pos (.inl c1)]
      rw [e]; exact ev_pos c1 (Ev.now _)
    refine ev_neg c1 ?_
    by_cases c2 : many > 400
    · have e : maE l many = 2 := by unfold maE; rw [if_pos hs, if_pos (.inr c2)]
      rw [e]; exact ev_pos c2 (Ev.now _)
    have e : maE l many = 0 := ma_ok.2 ⟨g, by omega, by omega⟩
    rw [if_pos e]
    exact ev_neg c2 (Ev.now _)
  · have e : maE l many = shE l := if_neg hs
    rw [e, if_neg hs, if_neg hs]
    exact Ev.now _
/-- What is owed, as the document reckons it. -/
theorem due_ref {l : List Int} (g : Good l) {c : Nat → Nat} {t i : Nat} (ht : t ≤ 500) (hi : i < l.length) (hc : c i ≤ t) {x : Int} (hx : x = (c i : Int)) :
    wrap64 (wrap64 (((t + 1 : Nat) : Int) * l.getD i 0) - wrap64 (x * tot l)) = due l c t i := by
  obtain ⟨h1, h2, h3, h4⟩ := due_bd g ht hi hc
  subst hx
  rw [show l.getD i 0 = sh l i from rfl, Int.mul_comm ((t + 1 : Nat) : Int), wrap_id (n := sh l i * _) (by omega), wrap_id (n := (c i : Int) * tot l) (by omega), wrap_id (by omega)]
  rfl
theorem refgreedy_l1 {l : List Int} (g : Good l) {c : Nat → Nat} {t : Nat} (ht : t ≤ 500) {cl : List Int} (hc : Cs cl l.length c) (hct : ∀ i, c i ≤ t) {many : Int} {out : List Int} (ho : out.length ≤ 500) {r : List Int × Int} :
    ∀ (d i b : Nat), i + d = l.length → b < l.length →
      Ev (fun k => trishawref01_Greedy.l0 k l many (tot l) (cl.set (gbest (due l c t) d i b) (cl.getD (gbest (due l c t) d i b) 0 + 1)) (out ++ [(gbest (due l c t) d i b : Int)]) (((t + 1 : Nat) : Int) + 1)) r →
      Ev (fun k => trishawref01_Greedy.l1 k l many (tot l) cl out ((t + 1 : Nat) : Int) b i) r := by
  intro d
  have hn := g.len
  have hcl := hc.len
  induction d with
  | zero =>
    intro i b hi hb h
    have h' : Ev (fun k => trishawref01_Greedy.l0 k l many (tot l) (cl.set b (cl.getD b 0 + 1)) (out ++ [(b : Int)]) (((t + 1 : Nat) : Int) + 1)) r := h
    have h0 := hc.at_ b hb
    have h1 := hct b
    refine Ev.step (fun k => by rw [trishawref01_Greedy.l1]) (ev_neg (by omega) (ev_pos (by omega) (ev_pos (by omega) (ev_pos (by omega) ?_))))
    rw [Int.toNat_natCast, rd_nat, wrap_id (n := cl.getD b 0 + 1) (by omega), wrap_id (n := ((t + 1 : Nat) : Int) + 1) (by omega)]
    exact h'
  | succ d ih =>
    intro i b hi hb h
    have h' : Ev (fun k => trishawref01_Greedy.l0 k l many (tot l) (cl.set (gbest (due l c t) d (i + 1) (if due l c t i > due l c t b then i else b)) (cl.getD (gbest (due l c t) d (i + 1) (if due l c t i > due l c t b then i else b)) 0 + 1)) (out ++ [(gbest (due l c t) d (i + 1) (if due l c t i > due l c t b then i else b) : Int)]) (((t + 1 : Nat) : Int) + 1)) r := h
    refine Ev.step (fun k => by rw [trishawref01_Greedy.l1]) (ev_pos (by omega) (ev_pos (by omega) (ev_pos (by omega) (ev_pos (by omega) (ev_pos (by omega) (ev_pos (by omega) ?_))))))
    rw [rd_nat, rd_nat, rd_nat, rd_nat, due_ref g ht (by omega) (hct i) (hc.at_ i (by omega)), due_ref g ht hb (hct b) (hc.at_ b hb), wrap_id (n := (i : Int) + 1) (by omega)]
    by_cases cc : due l c t i > due l c t b
    · rw [if_pos cc] at h'
      exact ev_pos cc (ih (i + 1) i (by omega) (by omega) h')
    · rw [if_neg cc] at h'
      exact ev_neg cc (ih (i + 1) b (by omega) hb h')
theorem refgreedy_l0 {l : List Int} (g : Good l) {many : Nat} (hm : many ≤ 400) : ∀ (d t : Nat) (cl : List Int), t + d = many → Cs cl l.length (run (pickG l) t) →
    Ev (fun k => trishawref01_Greedy.l0 k l many (tot l) cl (lst (called (pickG l)) t) ((t + 1 : Nat) : Int)) (lst (called (pickG l)) many, 0) := by
  intro d
  induction d with
  | zero =>
    intro t cl ht hc
    obtain rfl : t = many := by omega
    exact Ev.step (fun k => by rw [trishawref01_Greedy.l0]) (ev_neg (by omega) (Ev.now _))
  | succ d ih =>
    intro t cl ht hc
    have hlt := pickG_lt g (run (pickG l) t) t
    have hp := g.pos
    have h := ih (t + 1) (cl.set (pickG l (run (pickG l) t) t) (cl.getD (pickG l (run (pickG l) t) t) 0 + 1)) (by omega) (hc.bump hlt rfl)
    rw [lst_succ] at h
    refine Ev.step (fun k => by rw [trishawref01_Greedy.l0]) (ev_pos (by omega) ?_)
    refine refgreedy_l1 g (by omega) hc (run_le _ _) (by rw [lst_len]; omega) (l.length - 1) 1 0 (by omega) hp ?_
    rw [← pickG_one g]
    rw [show (((t + 1 : Nat) : Int) + 1) = ((t + 1 + 1 : Nat) : Int) by omega]
    exact h
theorem RefGreedy_f (l : List Int) (many : Int) : Ev (fun k => trishawref01_Greedy.f k l many) (if maE l many = 0 then (lst (called (pickG l)) many.toNat, 0) else ([], maE l many)) := by
  unfold trishawref01_Greedy.f
  refine Ev.bind (many_f l many) ?_
  by_cases h : maE l many = 0
  · obtain ⟨g, h0, h1⟩ := ma_ok.1 h
    have hn := g.len
    rw [if_pos h, if_pos h]
    obtain ⟨m, rfl⟩ := Int.eq_ofNat_of_zero_le h0
    refine ev_pos rfl (ev_pos (by omega) (ev_pos (by rw [Int.toNat_natCast]; omega) ?_))
    rw [Int.toNat_natCast, Int.toNat_natCast]
    exact refgreedy_l0 g (by omega) m 0 _ (by omega) (Cs.zero _)
  · rw [if_neg h, if_neg h]
    exact ev_neg h (Ev.now _)

def bst (o : Option Nat) : Int := match o with | none => -1 | some b => (b : Int)
theorem reffair_l1 {l : List Int} (g : Good l) (h2 : 2 ≤ l.length) {c : Nat → Nat} {t : Nat} (ht : t ≤ 500) {cl : List Int} (hc : Cs cl l.length c) (hct : ∀ i, c i ≤ t) {many : Int} {out : List Int} (ho : out.length ≤ 500) {r : List Int × Int} :
    ∀ (d i : Nat) (o : Option Nat), i + d = l.length → (∀ b, o = some b → b < l.length) → ∀ b, fb (sh l) (tot l) (dd l) (due l c t) d i o = some b → b < l.length →
      Ev (fun k => trishawref01_Fair.l0 k l many (tot l) (dd l) (cl.set b (cl.getD b 0 + 1)) (out ++ [(b : Int)]) (((t + 1 : Nat) : Int) + 1)) r →
      Ev (fun k => trishawref01_Fair.l1 k l many (tot l) (dd l) cl out ((t + 1 : Nat) : Int) (bst o) (lef l c t o) i) r := by
  intro d
  have hn := g.len
  have hcl := hc.len
  have hd := dd_bd g
  have hd2 : 2 ≤ dd l := by unfold dd; omega
  induction d with
  | zero =>
    intro i o hi ho' b hb hbl h
    have hb' : o = some b := hb
    subst hb'
    have h0 := hc.at_ b hbl
    have h1 := hct b
    refine Ev.step (fun k => by rw [trishawref01_Fair.l1]) (ev_neg (by omega) (ev_pos (by show 0 ≤ (b : Int); omega) (ev_pos (by show (b : Int) < _; omega) (ev_pos (by omega) ?_))))
    show Ev (fun k => trishawref01_Fair.l0 k l many (tot l) (dd l) (cl.set (b : Int).toNat (wrap64 (rd cl (b : Int) + 1))) (out ++ [(b : Int)]) (wrap64 (((t + 1 : Nat) : Int) + 1))) r
    rw [Int.toNat_natCast, rd_nat, wrap_id (n := cl.getD b 0 + 1) (by omega), wrap_id (n := ((t + 1 : Nat) : Int) + 1) (by omega)]
    exact h
  | succ d ih =>
    intro i o hi ho' b hb hbl h
    have hil : i < l.length := by omega
    have hbd := fair_bd g (c := c) ht hil (hct i)
    have hb' : fb (sh l) (tot l) (dd l) (due l c t) d (i + 1) (fbs (sh l) (tot l) (dd l) (due l c t) i o) = some b := hb
    have nx := ih (i + 1) (fbs (sh l) (tot l) (dd l) (due l c t) i o) (by omega) (fbs_lt hil ho') b hb' hbl h
    refine Ev.step (fun k => by rw [trishawref01_Fair.l1]) (ev_pos (by omega) (ev_pos (by omega) (ev_pos (by omega) (ev_pos (by omega) ?_))))
    rw [rd_nat, rd_nat, due_ref g ht hil (hct i) (hc.at_ i hil), Int.mul_comm (due l c t i), wrap_id (n := dd l * due l c t i) (by omega)]
    have e1 : wrap64 (wrap64 (dd l - 1) * tot l) = (dd l - 1) * tot l := by rw [wrap_id (n := dd l - 1) (by omega), wrap_id (by omega)]
    have e2 : wrap64 (wrap64 (wrap64 (dd l - 1) * tot l) - dd l * due l c t i) = lft (tot l) (dd l) (due l c t) i := by rw [e1, wrap_id (by omega)]; rfl
    unfold fbs at nx
    by_cases c1 : dd l * due l c t i < tot l
    · rw [if_pos c1] at nx
      rw [decide_eq_true c1]
      refine Ev.step (fun k => by rw [trishawref01_Fair.j2]) ?_
      rw [wrap_id (n := (i : Int) + 1) (by omega)]
      exact ev_pos rfl nx
    · rw [if_neg c1] at nx
      rw [decide_eq_false c1]
      refine Ev.step (fun k => by rw [trishawref01_Fair.j2]) ?_
      rw [wrap_id (n := (i : Int) + 1) (by omega), e2]
      refine ev_neg Bool.false_ne_true ?_
      cases o with
      | none =>
        refine ev_pos (by show (-1 : Int) < 0; omega) ?_
        exact nx
      | some b0 =>
        have hb0 := ho' b0 rfl
        have hlb := lef_bd g ht hct (o := some b0) ho'
        have hli := lef_bd g ht hct (o := some i) (fun b hb => by cases hb; omega)
        have sb := g.low b0 hb0
        have sb2 := g.high b0 hb0
        have si := g.low i hil
        have si2 := g.high i hil
        have m1 := mul_abs (a := lft (tot l) (dd l) (due l c t) i) (b := sh l b0) (A := 2300000) (B := 20) (by omega) hli.1 hli.2 (by omega) (by omega)
        have m2 := mul_abs (a := lft (tot l) (dd l) (due l c t) b0) (b := sh l i) (A := 2300000) (B := 20) (by omega) hlb.1 hlb.2 (by omega) (by omega)
        refine ev_neg (by show ¬ (b0 : Int) < 0; omega) (ev_pos (by show 0 ≤ (b0 : Int); omega) (ev_pos (by show (b0 : Int) < _; omega) (ev_pos (by omega) (ev_pos (by omega) ?_))))
        have r1 : rd l (bst (some b0)) = sh l b0 := rd_nat l b0
        have r2 : rd l (i : Int) = sh l i := rd_nat l i
        rw [r1, r2, show lef l c t (some b0) = lft (tot l) (dd l) (due l c t) b0 from rfl, wrap_id (n := lft (tot l) (dd l) (due l c t) i * sh l b0) (by omega), wrap_id (n := lft (tot l) (dd l) (due l c t) b0 * sh l i) (by omega)]
        unfold fbt at nx
        by_cases c2 : lft (tot l) (dd l) (due l c t) i * sh l b0 < lft (tot l) (dd l) (due l c t) b0 * sh l i
        · simp only [if_pos c2] at nx ⊢
          exact nx
        · simp only [if_neg c2] at nx ⊢
          exact nx
theorem reffair_one {l : List Int} (h1 : l.length = 1) {c : Nat → Nat} {t : Nat} (ht : t ≤ 500) {cl : List Int} (hc : Cs cl l.length c) (hct : ∀ i, c i ≤ t) {many : Int} {out : List Int} (ho : out.length ≤ 500) {r : List Int × Int}
    (h : Ev (fun k => trishawref01_Fair.l0 k l many (tot l) 0 (cl.set 0 (cl.getD 0 0 + 1)) (out ++ [(0 : Int)]) (((t + 1 : Nat) : Int) + 1)) r) :
    Ev (fun k => trishawref01_Fair.l1 k l many (tot l) 0 cl out ((t + 1 : Nat) : Int) (-1) 0 0) r := by
  have hcl := hc.len
  have h0 := hc.at_ 0 (by omega)
  have hc0 := hct 0
  refine Ev.step (fun k => by rw [trishawref01_Fair.l1]) (ev_pos (by omega) (ev_pos (by omega) (ev_pos (by omega) (ev_neg (by omega) ?_))))
  refine Ev.step (fun k => by rw [trishawref01_Fair.j2]) (ev_neg Bool.false_ne_true (ev_pos (by omega) ?_))
  rw [wrap_id (n := (0 : Int) + 1) (by omega)]
  refine Ev.step (fun k => by rw [trishawref01_Fair.l1]) (ev_neg (by omega) (ev_pos (by omega) (ev_pos (by omega) (ev_pos (by omega) ?_))))
  have r0 : rd cl (0 : Int) = cl.getD 0 0 := rd_nat cl 0
  rw [r0, wrap_id (n := cl.getD 0 0 + 1) (by omega), wrap_id (n := ((t + 1 : Nat) : Int) + 1) (by omega)]
  exact h
theorem reffair_l0 {l : List Int} (g : Good l) {many : Nat} (hm : many ≤ 400) : ∀ (d t : Nat) (cl : List Int), t + d = many → Cs cl l.length (run (pickF l) t) →
    Ev (fun k => trishawref01_Fair.l0 k l many (tot l) (dd l) cl (lst (called (pickF l)) t) ((t + 1 : Nat) : Int)) (lst (called (pickF l)) many, 0) := by
  intro d
  have hp := g.pos
  induction d with
  | zero =>
    intro t cl ht hc
    obtain rfl : t = many := by omega
    exact Ev.step (fun k => by rw [trishawref01_Fair.l0]) (ev_neg (by omega) (Ev.now _))
  | succ d ih =>
    intro t cl ht hc
    have hlt := pickF_lt g (run (pickF l) t) t
    have h := ih (t + 1) (cl.set (pickF l (run (pickF l) t) t) (cl.getD (pickF l (run (pickF l) t) t) 0 + 1)) (by omega) (hc.bump hlt rfl)
    rw [lst_succ, show called (pickF l) t = pickF l (run (pickF l) t) t from rfl, show ((t + 1 + 1 : Nat) : Int) = ((t + 1 : Nat) : Int) + 1 by omega] at h
    refine Ev.step (fun k => by rw [trishawref01_Fair.l0]) (ev_pos (by omega) ?_)
    by_cases h1 : l.length = 1
    · have e0 : dd l = 0 := by unfold dd; omega
      have e1 : pickF l (run (pickF l) t) t = 0 := if_pos h1
      rw [e0, e1] at h
      rw [e0]
      exact reffair_one h1 (by omega) hc (run_le _ _) (by rw [lst_len]; omega) h
    · have hy := due_sum (l := l) (called (pickF l)) t (fun σ _ => fair_lt g σ)
      rw [cnt_called] at hy
      obtain ⟨b, eb, ep, _⟩ := pickF_some g (by omega) hy
      rw [ep] at h hlt
      exact reffair_l1 g (by omega) (by omega) hc (run_le _ _) (by rw [lst_len]; omega) l.length 0 none (by omega) (fun b hb => by cases hb) b eb hlt h
theorem RefFair_f (l : List Int) (many : Int) : Ev (fun k => trishawref01_Fair.f k l many) (if maE l many = 0 then (lst (called (pickF l)) many.toNat, 0) else ([], maE l many)) := by
  unfold trishawref01_Fair.f
  refine Ev.bind (many_f l many) ?_
  by_cases h : maE l many = 0
  · obtain ⟨g, h0, h1⟩ := ma_ok.1 h
    have hn := g.len
    rw [if_pos h, if_pos h]
    obtain ⟨m, rfl⟩ := Int.eq_ofNat_of_zero_le h0
    refine ev_pos rfl (ev_pos (by omega) (ev_pos (by rw [Int.toNat_natCast]; omega) ?_))
    rw [Int.toNat_natCast, Int.toNat_natCast, wrap_id (n := 2 * (l.length : Int)) (by omega), wrap_id (n := 2 * (l.length : Int) - 2) (by omega)]
    exact reffair_l0 g (by omega) m 0 _ (by omega) (Cs.zero _)
  · rw [if_neg h, if_neg h]
    exact ev_neg h (Ev.now _)
end Go.Proofs.YtgobffgogmnmpaaDoor.Pure
