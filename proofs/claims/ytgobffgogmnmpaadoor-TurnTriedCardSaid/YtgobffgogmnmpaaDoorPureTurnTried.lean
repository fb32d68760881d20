/- The statement TurnTried, of what the walked functions compute: Least and Round are the best. Conditions: none but the bounds of the law. -/
import Derived.Test.YtgobffgogmnmpaaDoorPx8
import Derived.Test.YtgobffgogmnmpaaDoorPx16
import Derived.Test.YtgobffgogmnmpaaDoorPx17
import Derived.Test.YtgobffgogmnmpaaDoorTri
import Derived.Test.YtgobffgogmnmpaaDoorDays
namespace Go.Proofs.YtgobffgogmnmpaaDoor.Pure
open Go.RowKit Go.Proofs.YtgobffgogmnmpaaDoor.P Go.Proofs.YtgobffgogmnmpaaDoorW.PrintWords Go.Proofs.YtgobffgogmnmpaaDoorW.PrintLast Go.Proofs.YtgobffgogmnmpaaDoorW.PrintMore
theorem ne_self {a : Int} : (a != a) = false := by simp
theorem same_any {a b : List Int} (hl : a.length = b.length) (ha : a.length < 4611686018427387904) : ∃ z, Ev (fun k => trishawlaw01_same.f k a b) z ∧ (z = true ↔ a = b) := by
  have key : ∀ (d i : Nat), i + d = a.length → (∀ j, j < i → a.getD j 0 = b.getD j 0) → ∃ z, Ev (fun k => trishawlaw01_same.l0 k a b i) z ∧ (z = true ↔ a = b) := by
    intro d
    induction d with
    | zero => intro i hi hj; exact ⟨true, Ev.step (fun k => by rw [trishawlaw01_same.l0]) (ev_neg (by omega) (Ev.now _)), ⟨fun _ => ext_getD hl fun j hj' => hj j (by omega), fun _ => rfl⟩⟩
    | succ d ih =>
      intro i hi hj
      by_cases c : a.getD i 0 = b.getD i 0
      · obtain ⟨z, e, hz⟩ := ih (i + 1) (by omega) (fun j hj' => by
          by_cases c' : j = i
          · rw [c']; exact c
          · exact hj j (by omega))
        refine ⟨z, Ev.step (fun k => by rw [trishawlaw01_same.l0]) (ev_pos (by omega) (ev_pos (by omega) (ev_pos (by omega) ?_))), hz⟩
        rw [rd_nat, rd_nat, wrap_id (n := (i : Int) + 1) (by omega)]
        exact ev_pos c e
      · refine ⟨false, Ev.step (fun k => by rw [trishawlaw01_same.l0]) (ev_pos (by omega) (ev_pos (by omega) (ev_pos (by omega) ?_))), ⟨fun h => (Bool.false_ne_true h).elim, fun h => absurd (by rw [h]) c⟩⟩
        rw [rd_nat, rd_nat]
        exact ev_neg c (Ev.now _)
  obtain ⟨z, e, hz⟩ := key a.length 0 (by omega) (fun j hj => by omega)
  refine ⟨z, ?_, hz⟩
  unfold trishawlaw01_same.f
  exact ev_pos (by omega) e
theorem tried_l1 {days : List Int} {σ : List Nat} {T p q p' q' : Int} (hd : (days.length : Int) = T) (hs : (σ.length : Int) = T) (hT : T ≤ 160)
    (best : (p == p' && (q == q')) = true → il σ = days ∨ ∃ k, k < σ.length ∧ (∀ i, i < k → (il σ).getD i 0 = days.getD i 0) ∧ (il σ).getD k 0 < days.getD k 0) :
    ∀ (r i : Nat), i + r = days.length → (∀ j, j < i → (il σ).getD j 0 = days.getD j 0) → Ev (fun k => trishawlaw01_TurnTried.l1 k days T (il σ) i p q p' q') true := by
  intro r
  have hl := il_len σ
  have out : ∀ (i : Int), Ev (fun k => trishawlaw01_TurnTried.j4 k days T (il σ) i false p q p' q') true := fun i => Ev.step (fun k => by rw [trishawlaw01_TurnTried.j4]) (ev_neg Bool.false_ne_true alive_ev')
  induction r with
  | zero => intro i hi _; exact Ev.step (fun k => by rw [trishawlaw01_TurnTried.l1]) (ev_neg (by omega) (out _))
  | succ r ih =>
    intro i hi hj
    refine Ev.step (fun k => by rw [trishawlaw01_TurnTried.l1]) (ev_pos (by omega) ?_)
    cases hpq : (p == p' && (q == q')) with
    | false => exact out _
    | true =>
      refine Ev.step (fun k => by rw [trishawlaw01_TurnTried.j4]) (ev_pos rfl (ev_pos (by omega) (ev_pos (by omega) (ev_pos (by omega) ?_))))
      rw [rd_nat, rd_nat, wrap_id (n := (i : Int) + 1) (by omega)]
      by_cases c : (il σ).getD i 0 = days.getD i 0
      · exact ev_pos c (ih (i + 1) (by omega) fun j hj' => by
          by_cases c' : j = i
          · rw [c']; exact c
          · exact hj j (by omega))
      · refine ev_neg c (ev_pos ?_ alive_ev')
        rcases best hpq with h | ⟨k, k1, k2, k3⟩
        · exact absurd (by rw [h]) c
        · by_cases h1 : k < i
          · have := hj k h1; omega
          · by_cases h2 : i < k
            · exact absurd (k2 i h2) c
            · obtain rfl : k = i := by omega
              exact k3
theorem tried_l0 {l days : List Int} (g : Good l) (hd : (days.length : Int) = tot l) (hD : Days l.length days) : ∀ (r t : Nat) (c0 : List Int), t + r = days.length → Cs c0 l.length (cnt (ee days) t) → Ev (fun k => trishawlaw01_TurnTried.l0 k l days (tot l) c0 t) true := by
  intro r
  have hn := g.len
  have hT := g.tot_le
  have hT1 := g.tot_pos
  have hp := g.pos
  induction r with
  | zero =>
    intro t c0 ht hc
    obtain rfl : t = days.length := by omega
    have hcl := hc.len
    refine Ev.step (fun k => by rw [trishawlaw01_TurnTried.l0]) (ev_neg (by omega) ?_)
    obtain ⟨z, e, hz⟩ := same_any (a := c0) (b := l) hcl (by omega)
    refine Ev.bind e ?_
    cases z with
    | false => exact ev_neg Bool.false_ne_true alive_ev'
    | true =>
      have hcount := hz.1 rfl
      have rnd : IsRound l (ee days) := ⟨fun t ht => hD.lt (by omega), fun i hi => by
        rw [show (tot l).toNat = days.length by omega, ← hc.at_ i hi, hcount]; rfl⟩
      refine ev_pos rfl ?_
      obtain ⟨m, hm⟩ := isLe_ex g
      have m0 := hm.nonneg g
      have m1 := hm.lt g
      have hdev := hm.dev hd rnd
      have hsd : sdE l days = 0 := sd_ok.2 ⟨g, by omega, hD⟩
      have d1 := dev_small (days := days) g (by omega)
      have eD := Deviation_f l days
      rw [if_pos hsd] at eD
      obtain ⟨σ, eR, s⟩ := tround_f g hm
      refine Ev.bind eD (Ev.bind (Least_good g hm) (Ev.bind eR (ev_pos rfl (ev_pos rfl (ev_pos rfl ?_)))))
      have r0 := red_nonneg (dev_nonneg l days) (show 0 < tot l by omega)
      have r1 := red_pos (a := dev l days) (show 0 < tot l by omega)
      have r2 := red_le (dev_nonneg l days) (show 0 < tot l by omega)
      have q0 := red_nonneg m0 (show 0 < tot l by omega)
      have q1 := red_pos (a := m) (show 0 < tot l by omega)
      have q2 := red_le m0 (show 0 < tot l by omega)
      have e1 : Ev (fun _ => trishawlaw01_small.f (red (dev l days) (tot l)).1 (red (dev l days) (tot l)).2) true := by rw [small_red (dev_nonneg _ _) (by omega) (by omega) (by omega)]; exact Ev.now _
      have e2 : Ev (fun _ => trishawlaw01_small.f (red m (tot l)).1 (red m (tot l)).2) true := by rw [small_red m0 (by omega) (by omega) (by omega)]; exact Ev.now _
      have e3 : Ev (fun _ => trishawlaw01_atMost.f (red m (tot l)).1 (red m (tot l)).2 (red (dev l days) (tot l)).1 (red (dev l days) (tot l)).2) true := by
        have a1 := mul_bd q0 (show _ ≤ (1000 : Int) by omega) (Int.le_of_lt r1) (show _ ≤ (1000 : Int) by omega)
        have a2 := mul_bd r0 (show _ ≤ (200000 : Int) by omega) (Int.le_of_lt q1) (show _ ≤ (1000 : Int) by omega)
        rw [atMost_f (by omega) (by omega), decide_eq_true]
        · exact Ev.now _
        · refine (red_atMost (by omega)).2 ?_
          rw [red_cross (a := dev l days) (by omega)]
          exact Int.mul_le_mul_of_nonneg_right hdev (by omega)
      refine Ev.bind e1 (ev_pos rfl (Ev.bind e2 (ev_pos rfl (Ev.bind e3 (ev_pos rfl ?_)))))
      have hsl := s.len
      have hlen : ((il σ).length : Int) = tot l := by rw [il_len]; exact hsl
      rw [show (((il σ, (0 : Int)).1.length : Int) != tot l) = false by rw [hlen]; exact ne_self]
      refine Ev.step (fun k => by rw [trishawlaw01_TurnTried.j2]) ?_
      refine ev_neg Bool.false_ne_true ?_
      exact tried_l1 hd hsl hT (fun hb => by
        have hb' : (red (dev l days) (tot l)).1 = (red m (tot l)).1 ∧ (red (dev l days) (tot l)).2 = (red m (tot l)).2 := by simpa using hb
        have he : dev l days = m := red_inj (show 0 < tot l by omega) (Prod.ext hb'.1 hb'.2)
        obtain ⟨τ, hτ, hτd⟩ : ∃ τ : List Nat, τ.length = days.length ∧ il τ = days := ⟨days.map Int.toNat, by simp, by
          refine ext_getD (by rw [il_len]; simp) fun i hi => ?_
          rw [il_len, List.length_map] at hi
          rw [il_getD, List.getD_eq_getElem?_getD, List.getElem?_map, List.getElem?_eq_getElem hi, List.getD_eq_getElem?_getD, List.getElem?_eq_getElem hi]
          have := (hD i hi).1
          rw [List.getD_eq_getElem?_getD, List.getElem?_eq_getElem hi] at this
          show ((days[i].toNat : Nat) : Int) = days[i]
          have : 0 ≤ days[i] := this
          omega⟩
        subst hτd
        have ec : ∀ t, t < (tot l).toNat → ee (il τ) t = el τ t := fun t _ => il_ee τ t
        rcases s.first τ (by rw [il_len] at hd; exact hd) (round_congr ec rnd) (keeps_congr ec ((keeps_dev m0 hd).2 (by omega))) with h | ⟨k, k1, k2, k3⟩
        · left; rw [h]
        · right
          refine ⟨k, k1, fun i hi => ?_, ?_⟩
          · rw [il_getD, il_getD, k2 i hi]
          · rw [il_getD, il_getD]; omega) days.length 0 (by omega) (fun j hj => by omega)
  | succ r ih =>
    intro t c0 ht hc
    have hcl := hc.len
    have hlt := hD.lt (t := t) (by omega)
    have hv := hD.val (t := t) (by omega)
    have hb : c0.getD (ee days t) 0 = (cnt (ee days) t (ee days t) : Int) := hc.at_ _ hlt
    have hb2 := cnt_le (ee days) (ee days t) t
    refine Ev.step (fun k => by rw [trishawlaw01_TurnTried.l0]) (ev_pos (by omega) (ev_pos (by omega) (ev_pos (by omega) ?_)))
    rw [rd_nat, hv, rd_nat]
    refine ev_pos (by omega) (ev_pos (by omega) ?_)
    rw [Int.toNat_natCast, wrap_id (n := c0.getD (ee days t) 0 + 1) (by omega), wrap_id (n := (t : Int) + 1) (by omega)]
    exact ih (t + 1) _ (by omega) (hc.bump hlt rfl)
theorem TurnTried : trishawlaw01_TurnTried.Pure := by
  intro l days hl _ _ hdl _ _
  refine Ev.rounds (g := fun k => trishawlaw01_TurnTried.f k l days) ?_
  unfold trishawlaw01_TurnTried.f
  have awake : ∀ x, Ev (fun k => trishawlaw01_TurnTried.j0 k l days x true) true := fun x => Ev.step (fun k => by rw [trishawlaw01_TurnTried.j0]) (ev_pos rfl alive_ev')
  refine Ev.bind (Shares_f l) ?_
  rw [few_f]
  refine Ev.bind (Ev.now _) ?_
  by_cases hf : decide (l.length ≤ 30 ∧ days.length ≤ 500) = true
  · refine ev_pos hf ?_
    by_cases hs : shE l = 0
    · have g := sh_good.1 hs
      rw [if_pos hs]
      refine ev_pos rfl ?_
      by_cases hd : (days.length : Int) = tot l
      · refine ev_pos hd (Ev.bind (Days_f days l.length) ?_)
        by_cases hde : daE days l.length = 0
        · rw [hde, show ((0 : Int) != 0) = false from rfl]
          have hn := g.len
          refine Ev.step (fun k => by rw [trishawlaw01_TurnTried.j0]) ?_
          refine ev_neg Bool.false_ne_true (ev_pos (by omega) (ev_pos (by rw [Int.toNat_natCast]; omega) ?_))
          rw [Int.toNat_natCast]
          exact tried_l0 g hd (da_ok.1 hde).2 days.length 0 _ (by omega) (Cs.zero _)
        · rw [show (daE days l.length != 0) = true by simpa using hde]
          exact awake _
      · exact ev_neg hd (awake _)
    · rw [if_neg hs]
      exact ev_neg hs (awake _)
  · exact ev_neg hf (awake _)
end Go.Proofs.YtgobffgogmnmpaaDoor.Pure
