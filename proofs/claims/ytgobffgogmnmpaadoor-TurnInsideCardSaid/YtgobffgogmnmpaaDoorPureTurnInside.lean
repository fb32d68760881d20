/- The statement TurnInside, of what the walked functions compute: windows tell which rounds keep a bound. Conditions: none but the bounds of the law. -/
import Derived.Test.YtgobffgogmnmpaaDoorPx29
import Derived.Test.YtgobffgogmnmpaaDoorBou
import Derived.Test.YtgobffgogmnmpaaDoorIns
import Derived.Test.YtgobffgogmnmpaaDoorInd
import Derived.Test.YtgobffgogmnmpaaDoorDays
import Derived.Test.YtgobffgogmnmpaaDoorMny
namespace Go.Proofs.YtgobffgogmnmpaaDoor.Pure
open Go.RowKit Go.Proofs.YtgobffgogmnmpaaDoor.P Go.Proofs.YtgobffgogmnmpaaDoorW.PrintWords Go.Proofs.YtgobffgogmnmpaaDoorW.PrintLast Go.Proofs.YtgobffgogmnmpaaDoorW.PrintMore
section
variable {l days : List Int} {p q : Int} {ws : List (List S51)}
theorem inside_l3 (g : Good l) (b : Bnd p q) (h : WsIs l p q ws) (hl : (days.length : Int) = tot l) (hD : Days l.length days) : ∀ (r d : Nat) (c0 : List Int) (z : Bool), (d : Int) + r = tot l → St l (cnt (ee days) d) d → Cs c0 l.length (cnt (ee days) d) →
    (Comp (cl l p q ws g b h) (fun _ => 0) 0 (nl days) ↔ z = true ∧ Comp (cl l p q ws g b h) (cnt (ee days) d) d ((nl days).drop d)) →
    Ev (fun k => trishawlaw01_TurnInside.l3 k l days (tot l) ws c0 z d p q) true := by
  intro r
  have hT := g.tot_pos
  have hT2 := g.tot_le
  have hn := g.len
  have hp := g.pos
  have hcT := cl_T (g := g) (b := b) (h := h)
  induction r with
  | zero =>
    intro d c0 z hd st hc hz
    have hfull := st.full (by omega)
    have hr : IsRound l (ee days) := ⟨fun t ht => hD.lt (by omega), fun i hi => by rw [show (tot l).toNat = d by omega]; exact hfull i hi⟩
    have hzz : z = true ↔ dev l days * q ≤ p * tot l := by
      rw [← comp_dev (g := g) (b := b) (h := h) hl hr, hz]
      refine ⟨fun x => ⟨x, ?_⟩, fun x => x.1⟩
      rw [List.drop_eq_nil_of_le (by rw [nl_len]; omega)]
      refine ⟨by omega, fun i hi => ?_⟩
      have hi' : i < l.length := hi
      have := hfull i hi'
      have := cl_s (g := g) (b := b) (h := h) hi'
      omega
    have f1 := Deviation_f l days
    rw [if_pos (sd_ok.2 ⟨g, by omega, hD⟩)] at f1
    have s0 := dev_small g (days := days) (by omega)
    have d0 := dev_nonneg l days
    have q1 := red_pos (a := dev l days) (show 0 < tot l by omega)
    have q0 := red_nonneg d0 (show 0 < tot l by omega)
    have q2 := red_le d0 (show 0 < tot l by omega)
    have b1 := b.q1
    have b2 := b.q2
    have b3 := b.p0
    have b4 := b.p1
    have m1 := mul_bd q0 (show _ ≤ (200000 : Int) by omega) (show 0 ≤ q by omega) b2
    have m2 := mul_bd b3 (show p ≤ (10000000 : Int) by omega) (Int.le_of_lt q1) (show _ ≤ (160 : Int) by omega)
    have s2 := small_red d0 (show _ < (1000000 : Int) by omega) (show 0 < tot l by omega) (by omega)
    refine Ev.step (fun k => by rw [trishawlaw01_TurnInside.l3]) (ev_neg (by omega) (Ev.bind f1 (ev_pos rfl ?_)))
    rw [s2]
    refine Ev.bind (Ev.now _) (ev_pos rfl (ev_neg (by omega) ?_))
    show Ev (fun n => (trishawlaw01_atMost.f (red (dev l days) (tot l)).1 (red (dev l days) (tot l)).2 p q).bind fun t759 => if (z == t759) = true then ((trishawlaw01_alive.f n).bind fun t760 => some t760) else some false) true
    rw [atMost_f (by omega) (by omega)]
    refine Ev.bind (Ev.now _) (ev_pos ?_ alive_ev')
    have hA := red_atMost (D := dev l days) (p := p) (q := q) (show 0 < tot l by omega)
    by_cases c : dev l days * q ≤ p * tot l
    · rw [hzz.2 c, decide_eq_true (hA.2 c)]; rfl
    · rw [show z = false by cases z with | false => rfl | true => exact absurd (hzz.1 rfl) c, decide_eq_false (fun x => c (hA.1 x))]; rfl
  | succ r ih =>
    intro d c0 z hd st hc hz
    have hlt := hD.lt (show d < days.length by omega)
    have hv := hD.val (show d < days.length by omega)
    have hcl := hc.len
    have hat := hc.at_ _ hlt
    have hle := st.le _ hlt
    have hwl := h.len
    have hrow := h.row _ hlt
    have hsl : l.getD (ee days d) 0 = sh l (ee days d) := rfl
    have h20 := g.high _ hlt
    refine Ev.step (fun k => by rw [trishawlaw01_TurnInside.l3]) (ev_pos (by omega) (ev_pos (by omega) (ev_pos (by omega) ?_)))
    rw [rd_nat days, hv]
    refine ev_pos (by omega) (ev_pos (by omega) (ev_pos (by omega) ?_))
    rw [rd_nat, rd_nat, Int.toNat_natCast]
    by_cases hfull : c0.getD (ee days d) 0 = l.getD (ee days d) 0
    · exact ev_pos hfull alive_ev'
    refine ev_neg hfull (ev_pos (by omega) (ev_pos (by omega) (ev_pos (by omega) ?_)))
    have hlt2 : (cnt (ee days) d (ee days d) : Int) < sh l (ee days d) := by omega
    have elo := cl_lo (g := g) (b := b) (h := h) hlt hlt2
    have ehi := cl_hi (g := g) (b := b) (h := h) hlt hlt2
    have w1 : (rd_T51 (rd_L2 ws (ee days d)) (c0.getD (ee days d) 0)).f0 = (cl l p q ws g b h).lo (ee days d) (cnt (ee days) d (ee days d)) := by rw [elo, hat]; rfl
    have w2 : (rd_T51 (rd_L2 ws (ee days d)) (c0.getD (ee days d) 0)).f1 = (cl l p q ws g b h).hi (ee days d) (cnt (ee days) d (ee days d)) := by rw [ehi, hat]; rfl
    have hs := cl_s (g := g) (b := b) (h := h) hlt
    have st' : St l (cnt (ee days) (d + 1)) (d + 1) := st.bump hlt hlt2
    have hc' : Cs (c0.set (ee days d) (c0.getD (ee days d) 0 + 1)) l.length (cnt (ee days) (d + 1)) := hc.bump hlt rfl
    have hC : Comp (cl l p q ws g b h) (cnt (ee days) d) d ((nl days).drop d) ↔ ((cl l p q ws g b h).lo (ee days d) (cnt (ee days) d (ee days d)) ≤ (d : Int) ∧ (d : Int) ≤ (cl l p q ws g b h).hi (ee days d) (cnt (ee days) d (ee days d))) ∧ Comp (cl l p q ws g b h) (cnt (ee days) (d + 1)) (d + 1) ((nl days).drop (d + 1)) := by
      rw [nl_drop (by omega), Comp.cons]
      exact ⟨fun x => ⟨⟨x.2.2.2.1, x.2.2.2.2.1⟩, x.2.2.2.2.2⟩, fun x => ⟨by omega, hlt, by omega, x.1.1, x.1.2, x.2⟩⟩
    have go : ∀ z' : Bool, (z' = true ↔ z = true ∧ (cl l p q ws g b h).lo (ee days d) (cnt (ee days) d (ee days d)) ≤ (d : Int) ∧ (d : Int) ≤ (cl l p q ws g b h).hi (ee days d) (cnt (ee days) d (ee days d))) →
        Ev (fun k => trishawlaw01_TurnInside.l3 k l days (tot l) ws (c0.set (ee days d) (c0.getD (ee days d) 0 + 1)) z' ((d + 1 : Nat) : Int) p q) true := fun z' hz' => by
      refine ih (d + 1) _ z' (by omega) st' hc' ?_
      rw [hz, hC, hz']
      exact ⟨fun ⟨a, bb, c⟩ => ⟨⟨a, bb⟩, c⟩, fun ⟨⟨a, bb⟩, c⟩ => ⟨a, bb, c⟩⟩
    rw [wrap_id (n := c0.getD (ee days d) 0 + 1) (by omega), wrap_id (n := (d : Int) + 1) (by omega), w1, w2, show (d : Int) + 1 = ((d + 1 : Nat) : Int) by omega]
    cases z with
    | false => exact ev_neg Bool.false_ne_true (go false ⟨fun x => absurd x Bool.false_ne_true, fun x => x.1⟩)
    | true =>
      refine ev_pos rfl ?_
      by_cases c1 : (cl l p q ws g b h).lo (ee days d) (cnt (ee days) d (ee days d)) ≤ (d : Int)
      · refine ev_pos c1 (go _ ⟨fun x => ⟨rfl, c1, of_decide_eq_true x⟩, fun x => decide_eq_true x.2.2⟩)
      · exact ev_neg c1 (go false ⟨fun x => absurd x Bool.false_ne_true, fun x => absurd x.2.1 c1⟩)
theorem inside_j8 (g : Good l) (b : Bnd p q) (h : WsIs l p q ws) : Ev (fun k => trishawlaw01_TurnInside.j8 k l days (tot l) ws p q) true := by
  have hn := g.len
  have hT := g.tot_pos
  have hT2 := g.tot_le
  have awake : Ev (fun k => trishawlaw01_TurnInside.j9 k l days (tot l) ws true p q) true := Ev.step (fun k => by rw [trishawlaw01_TurnInside.j9]) (ev_pos rfl alive_ev')
  refine Ev.step (fun k => by rw [trishawlaw01_TurnInside.j8]) ?_
  by_cases hl : (days.length : Int) = tot l
  · refine ev_pos hl (Ev.bind (Days_f days l.length) ?_)
    by_cases hd : daE days l.length = 0
    · obtain ⟨_, hD⟩ := da_ok.1 hd
      rw [hd, neq_self]
      refine Ev.step (fun k => by rw [trishawlaw01_TurnInside.j9]) (ev_neg Bool.false_ne_true (ev_pos (by omega) (ev_pos (by rw [Int.toNat_natCast]; omega) ?_)))
      rw [Int.toNat_natCast]
      exact inside_l3 g b h hl hD (tot l).toNat 0 _ true (by omega) (St.zero g) (Cs.zero _) ⟨fun x => ⟨rfl, x⟩, fun x => x.2⟩
    · rw [show (daE days l.length != 0) = true by simpa using hd]; exact awake
  · exact ev_neg hl awake
theorem inside_l2 (g : Good l) (b : Bnd p q) (h : WsIs l p q ws) {p' q' : Int} {vs : List (List S51)} (b' : Bnd p' q') (h' : WsIs l p' q' vs) (hb : p * q' ≤ p' * q) {i : Nat} (hi : i < l.length)
    (next : Ev (fun k => trishawlaw01_TurnInside.l1 k l days (tot l) ws vs ((i + 1 : Nat) : Int) p q) true) : ∀ (r j : Nat), (j : Int) + r = sh l i → Ev (fun k => trishawlaw01_TurnInside.l2 k l days (tot l) ws vs i j p q) true := by
  intro r
  have hn := g.len
  have hT := g.tot_pos
  have hwl := h.len
  have hvl := h'.len
  have hsl : l.getD i 0 = sh l i := rfl
  have h20 := g.high i hi
  have hwr := h.row i hi
  have hvr := h'.row i hi
  induction r with
  | zero =>
    intro j hj
    refine Ev.step (fun k => by rw [trishawlaw01_TurnInside.l2]) (ev_pos (by omega) (ev_pos (by omega) ?_))
    rw [rd_nat]
    refine ev_neg (by omega) (Ev.step (fun k => by rw [trishawlaw01_TurnInside.j7]) (ev_neg Bool.false_ne_true ?_))
    rw [wrap_id (n := (i : Int) + 1) (by omega)]
    exact next
  | succ r ih =>
    intro j hj
    refine Ev.step (fun k => by rw [trishawlaw01_TurnInside.l2]) (ev_pos (by omega) (ev_pos (by omega) ?_))
    rw [rd_nat]
    refine ev_pos (by omega) (ev_pos (by omega) ?_)
    rw [show (((rd_L2 vs i).length : Int) == l.getD i 0) = true by rw [hvr, hsl]; simp]
    refine Ev.step (fun k => by rw [trishawlaw01_TurnInside.j7]) (ev_pos rfl (ev_pos (by omega) (ev_pos (by omega) (ev_pos (by omega) (ev_pos (by omega) ?_)))))
    rw [wrap_id (n := (j : Int) + 1) (by omega), show (j : Int) + 1 = ((j + 1 : Nat) : Int) by omega]
    have a := h.win i hi j (by omega)
    have a' := h'.win i hi j (by omega)
    by_cases c : (wAt ws i j).1 ≤ (wAt ws i j).2
    · obtain ⟨k1, k2⟩ := a.grow (fun d hd => hd.grow (by have := b.q1; omega) (by have := b'.q1; omega) (by omega) hb) a' c
      exact ev_pos c (ev_pos (by omega) (ev_pos (by omega) (ev_neg (show ¬ (wAt vs i j).1 > (wAt ws i j).1 by omega) (ev_neg (show ¬ (wAt vs i j).2 < (wAt ws i j).2 by omega) (ih (j + 1) (by omega))))))
    · exact ev_neg c (ih (j + 1) (by omega))
theorem inside_l1 (g : Good l) (b : Bnd p q) (h : WsIs l p q ws) {p' q' : Int} {vs : List (List S51)} (b' : Bnd p' q') (h' : WsIs l p' q' vs) (hb : p * q' ≤ p' * q) : ∀ (r i : Nat), i + r = l.length → Ev (fun k => trishawlaw01_TurnInside.l1 k l days (tot l) ws vs i p q) true := by
  intro r
  have hvl := h'.len
  induction r with
  | zero =>
    intro i hi
    exact Ev.step (fun k => by rw [trishawlaw01_TurnInside.l1]) (ev_neg (by omega) (Ev.step (fun k => by rw [trishawlaw01_TurnInside.j5]) (ev_neg Bool.false_ne_true (inside_j8 g b h))))
  | succ r ih =>
    intro i hi
    refine Ev.step (fun k => by rw [trishawlaw01_TurnInside.l1]) (ev_pos (by omega) ?_)
    rw [show ((vs.length : Int) == (l.length : Int)) = true by rw [hvl]; simp]
    refine Ev.step (fun k => by rw [trishawlaw01_TurnInside.j5]) (ev_pos rfl ?_)
    have := g.low i (by omega)
    exact inside_l2 g b h b' h' hb (by omega) (ih (i + 1) (by omega)) (sh l i).toNat 0 (by omega)
theorem inside_l0 (g : Good l) (b : IsB p q) (h : WsIs l p q ws) {p' q' : Int} (hp : -9223372036854775808 ≤ p' ∧ p' ≤ 9223372036854775807) (hq : -9223372036854775808 ≤ q' ∧ q' ≤ 9223372036854775807) : ∀ (r i : Nat), i + r = l.length → Ev (fun k => trishawlaw01_TurnInside.l0 k l days (tot l) ws i p q p' q') true := by
  intro r
  have hn := g.len
  have hwl := h.len
  have b1 := b.1.q1
  have b2 := b.1.q2
  have b3 := b.1.p0
  have b4 := b.1.p1
  induction r with
  | zero =>
    intro i hi
    have j3 : ∀ vs, Ev (fun k => trishawlaw01_TurnInside.j3 k l days (tot l) ws vs false p q) true := fun vs => Ev.step (fun k => by rw [trishawlaw01_TurnInside.j3]) (ev_neg Bool.false_ne_true (inside_j8 g b.1 h))
    refine Ev.step (fun k => by rw [trishawlaw01_TurnInside.l0]) (ev_neg (by omega) ?_)
    by_cases hb : bnE l p' q' = 0
    · have bb := (bn_ok.1 hb).2
      obtain ⟨vs, e, hv⟩ := Windows_good g bb
      have b1' := bb.1.q1
      have b2' := bb.1.q2
      have b3' := bb.1.p0
      have b4' := bb.1.p1
      have m1 := mul_bd b3 (show p ≤ (10000000 : Int) by omega) (show 0 ≤ q' by omega) b2'
      have m2 := mul_bd b3' (show p' ≤ (10000000 : Int) by omega) (show 0 ≤ q by omega) b2
      refine Ev.bind e (ev_pos rfl (ev_pos (by omega) (ev_pos (by omega) ?_)))
      rw [atMost_f (by omega) (by omega)]
      refine Ev.bind (Ev.now _) ?_
      by_cases c : p * q' ≤ p' * q
      · rw [decide_eq_true c]
        refine Ev.step (fun k => by rw [trishawlaw01_TurnInside.j3]) ?_
        exact ev_pos rfl (inside_l1 g b.1 h bb.1 hv c l.length 0 (by omega))
      · rw [decide_eq_false c]; exact j3 _
    · exact Ev.bind (Windows_bad hp hq hb) (ev_neg hb (j3 _))
  | succ r ih =>
    intro i hi
    have hr := h.row i (by omega)
    refine Ev.step (fun k => by rw [trishawlaw01_TurnInside.l0]) (ev_pos (by omega) (ev_pos (by omega) (ev_pos (by omega) ?_)))
    rw [rd_nat, wrap_id (n := (i : Int) + 1) (by omega)]
    exact ev_pos hr (ih (i + 1) (by omega))
end
theorem i64_bd {a : Int} (h : (Lit.int .i64 a).wf = true) : -9223372036854775808 ≤ a ∧ a ≤ 9223372036854775807 := by
  have h1 : IntKind.i64.min ≤ a ∧ a ≤ IntKind.i64.max := by simpa [Lit.wf] using h
  have e0 : IntKind.i64.min = -9223372036854775808 := rfl
  have e1 : IntKind.i64.max = 9223372036854775807 := rfl
  omega
theorem TurnInside (l days : List Int) (p q p' q' : Int) (hp' : (Lit.int .i64 p').wf = true) (hq' : (Lit.int .i64 q').wf = true) : ∃ k, trishawlaw01_TurnInside.f k l days p q p' q' = some true := by
  refine Ev.rounds (g := fun k => trishawlaw01_TurnInside.f k l days p q p' q') ?_
  unfold trishawlaw01_TurnInside.f
  have awake : ∀ x, Ev (fun k => trishawlaw01_TurnInside.j0 k l days x true p q p' q') true := fun x => Ev.step (fun k => by rw [trishawlaw01_TurnInside.j0]) (ev_pos rfl alive_ev')
  refine Ev.bind (Shares_f l) ?_
  rw [few_f]
  refine Ev.bind (Ev.now _) ?_
  by_cases hf : decide (l.length ≤ 30 ∧ days.length ≤ 500) = true
  rotate_left
  · exact ev_neg hf (awake _)
  refine ev_pos hf ?_
  by_cases hs : shE l = 0
  rotate_left
  · rw [if_neg hs]; exact ev_neg hs (awake _)
  have g := sh_good.1 hs
  have hl := g.len
  rw [if_pos hs]
  refine ev_pos rfl (Ev.bind (IsBound_f p q) ?_)
  by_cases hb : IsB p q
  · rw [decide_eq_true hb]
    obtain ⟨ws, e, h⟩ := Windows_good g hb
    have hwl := h.len
    refine Ev.step (fun k => by rw [trishawlaw01_TurnInside.j0]) ?_
    refine ev_neg Bool.false_ne_true ?_
    refine Ev.bind e ?_
    refine ev_pos rfl ?_
    rw [show ((ws, (0 : Int)).1.length : Int) = (l.length : Int) by rw [← hwl], neq_self]
    refine Ev.step (fun k => by rw [trishawlaw01_TurnInside.j1]) ?_
    exact ev_neg Bool.false_ne_true (inside_l0 g hb h (i64_bd hp') (i64_bd hq') l.length 0 (by omega))
  · rw [decide_eq_false hb]; exact awake _
end Go.Proofs.YtgobffgogmnmpaaDoor.Pure
