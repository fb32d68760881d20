/- What the document answers to Deviation and Quota. Conditions: none but sizes. -/
import Derived.Test.YtgobffgogmnmpaaDoorPx18
import Derived.Test.YtgobffgogmnmpaaDoorPx19
import Derived.Test.YtgobffgogmnmpaaDoorDev
import Derived.Test.YtgobffgogmnmpaaDoorDays
namespace Go.Proofs.YtgobffgogmnmpaaDoor.Pure
open Go.RowKit Go.Proofs.YtgobffgogmnmpaaDoor.P Go.Proofs.YtgobffgogmnmpaaDoorW.PrintWords Go.Proofs.YtgobffgogmnmpaaDoorW.PrintLast Go.Proofs.YtgobffgogmnmpaaDoorW.PrintMore

theorem asked_f (l days : List Int) : Ev (fun k => trishawref01_asked.f k l days) (if shE l = 0 then (tot l, daE days l.length) else (0, shE l)) := by
  unfold trishawref01_asked.f
  by_cases hs : shE l = 0
  · rw [if_pos hs]
    exact Ev.bind (Shares_good (sh_good.1 hs)) (ev_pos rfl (Ev.bind (Days_f days l.length) (Ev.now _)))
  · rw [if_neg hs]
    exact Ev.bind (Shares_bad hs) (ev_neg hs (Ev.now _))
theorem Worst_l1 {l : List Int} (g : Good l) {days : List Int} (hd : days.length ≤ 400) {t : Nat} (ht : t < days.length) {cl : List Int} (hc : Cs cl l.length (cnt (ee days) (t + 1))) {r : Int} :
    ∀ (d i : Nat) (m : Int), i + d = l.length → Ev (fun k => trishawref01_Worst.l0 k l days (tot l) cl (dmx (lag (sh l) (tot l) (ee days) (t + 1)) d i m) (wrap64 (((t + 1 : Nat) : Int) + 1))) r →
      Ev (fun k => trishawref01_Worst.l1 k l days (tot l) cl m ((t + 1 : Nat) : Int) i) r := by
  intro d
  have hn := g.len
  have hcl := hc.len
  induction d with
  | zero =>
    intro i m hi h
    refine Ev.step (fun k => by rw [trishawref01_Worst.l1]) (ev_neg (by omega) ?_)
    exact h
  | succ d ih =>
    intro i m hi h
    obtain ⟨h1, h2, h3, h4⟩ := small_lag g (e := ee days) (t := t + 1) (i := i) (by omega) (by omega) (hc.at_ i (by omega))
    refine Ev.step (fun k => by rw [trishawref01_Worst.l1]) (ev_pos (by omega) (ev_pos (by omega) (ev_pos (by omega) ?_)))
    rw [rd_nat, rd_nat, show l.getD i 0 = sh l i from rfl, Int.mul_comm ((t + 1 : Nat) : Int) (sh l i), wrap_id (n := sh l i * ((t + 1 : Nat) : Int)) (by omega), wrap_id (n := cl.getD i 0 * tot l) (by omega), wrap_id (n := (i : Int) + 1) (by omega), wrap_id (n := cl.getD i 0 * tot l - _) (by omega), wrap_id (n := -(cl.getD i 0 * tot l - _)) (by omega)]
    have e : cl.getD i 0 * tot l - sh l i * ((t + 1 : Nat) : Int) = -(lag (sh l) (tot l) (ee days) (t + 1) i) := by rw [lag_cnt, hc.at_ i (by omega)]; omega
    rw [e, mx_swap]
    exact ih (i + 1) _ (by omega) h
theorem Worst_l0 {l : List Int} (g : Good l) {days : List Int} (hd : days.length ≤ 400) (hD : Days l.length days) : ∀ (d t : Nat) (m : Int) (cl : List Int), t + d = days.length → Cs cl l.length (cnt (ee days) t) →
    Ev (fun k => trishawref01_Worst.l0 k l days (tot l) cl m ((t + 1 : Nat) : Int)) (wsf (sh l) (tot l) l.length (ee days) d t m) := by
  intro d
  have hn := g.len
  induction d with
  | zero =>
    intro t m cl ht hc
    show Ev _ m
    exact Ev.step (fun k => by rw [trishawref01_Worst.l0]) (ev_neg (by omega) (Ev.now _))
  | succ d ih =>
    intro t m cl ht hc
    have hcl := hc.len
    have hlt := hD.lt (t := t) (by omega)
    have hv := hD.val (t := t) (by omega)
    have hb : cl.getD (ee days t) 0 = (cnt (ee days) t (ee days t) : Int) := hc.at_ _ hlt
    have hb2 := cnt_le (ee days) (ee days t) t
    refine Ev.step (fun k => by rw [trishawref01_Worst.l0]) ?_
    rw [wrap_id (n := ((t + 1 : Nat) : Int) - 1) (by omega), show ((t + 1 : Nat) : Int) - 1 = (t : Int) by omega, rd_nat, hv, rd_nat]
    refine ev_pos (by omega) (ev_pos (by omega) (ev_pos (by omega) (ev_pos (by omega) (ev_pos (by omega) ?_))))
    rw [show ((ee days t : Nat) : Int).toNat = ee days t from Int.toNat_natCast _, wrap_id (n := cl.getD (ee days t) 0 + 1) (by omega)]
    have hc' := hc.bump hlt (v := cl.getD (ee days t) 0 + 1) rfl
    refine Worst_l1 g hd (by omega) hc' l.length 0 m (by omega) ?_
    rw [wrap_id (n := ((t + 1 : Nat) : Int) + 1) (by omega)]
    exact ih (t + 1) _ _ (by omega) hc'
theorem RefDeviation_f (l days : List Int) : Ev (fun k => trishawref01_Deviation.f k l days) (if sdE l days = 0 then ((red (dev l days) (tot l)).1, (red (dev l days) (tot l)).2, 0) else (0, 0, sdE l days)) := by
  unfold trishawref01_Deviation.f
  refine Ev.bind (asked_f l days) ?_
  by_cases hs : shE l = 0
  · have g := sh_good.1 hs
    have e : sdE l days = daE days l.length := if_pos hs
    rw [e, if_pos hs]
    by_cases hd : daE days l.length = 0
    · obtain ⟨h1, h2⟩ := da_ok.1 hd
      rw [if_pos hd]
      have := g.tot_pos; have := g.tot_le; have := g.pos; have := g.len
      refine ev_pos hd (Ev.bind (a := dev l days) ?_ (Ev.bind (Ratio_f (dev_nonneg l days) ?_ (by omega) (by omega)) (Ev.now _)))
      · unfold trishawref01_Worst.f
        refine ev_pos (by omega) (ev_pos (by rw [Int.toNat_natCast]; omega) ?_)
        rw [Int.toNat_natCast]
        exact Worst_l0 g h1 h2 days.length 0 0 _ (by omega) (Cs.zero _)
      · have := dev_small (days := days) g h1; omega
    · rw [if_neg hd]
      exact ev_neg hd (Ev.now _)
  · have e : sdE l days = shE l := if_neg hs
    rw [e, if_neg hs, if_neg hs]
    exact ev_neg hs (Ev.now _)

/-- A count is what is due, rounded down or up, exactly if it is less than one day away from it. -/
theorem quota_iff {T p c : Int} (hT : 0 < T) : (c = p / T ∨ c = (p + T - 1) / T) ↔ (-(T - 1) ≤ p - c * T ∧ p - c * T ≤ T - 1) := by
  have e1 := Int.emod_add_mul_ediv p T
  have e2 := Int.emod_nonneg p (show T ≠ 0 by omega)
  have e3 := Int.emod_lt_of_pos p hT
  have f1 := Int.emod_add_mul_ediv (p + T - 1) T
  have f2 := Int.emod_nonneg (p + T - 1) (show T ≠ 0 by omega)
  have f3 := Int.emod_lt_of_pos (p + T - 1) hT
  generalize p / T = q at *
  generalize p % T = r at *
  generalize (p + T - 1) / T = q' at *
  generalize (p + T - 1) % T = r' at *
  have k1 : ∀ a b : Int, T * a ≤ T * b + (T - 1) → a ≤ b := fun a b h => Int.not_lt.1 fun hlt => by
    have h' := Int.mul_le_mul_of_nonneg_left (show b + 1 ≤ a by omega) (show 0 ≤ T by omega)
    rw [Int.mul_add] at h'; omega
  rw [Int.mul_comm c T]
  constructor
  · rintro (h | h)
    · subst h; omega
    · subst h; omega
  · intro ⟨h1, h2⟩
    have a1 : q ≤ c := k1 q c (by omega)
    have a2 : c ≤ q' := k1 c q' (by omega)
    have a3 : q' ≤ q + 1 := k1 q' (q + 1) (by rw [Int.mul_add]; omega)
    omega
theorem RefQuota_l1 {l : List Int} (g : Good l) {days : List Int} (hd : days.length ≤ 400) {t : Nat} (ht : t < days.length) {cl : List Int} (hc : Cs cl l.length (cnt (ee days) (t + 1))) {r : Bool × Int}
    (hbad : (∃ j, j < l.length ∧ ¬ (-(tot l - 1) ≤ lag (sh l) (tot l) (ee days) (t + 1) j ∧ lag (sh l) (tot l) (ee days) (t + 1) j ≤ tot l - 1)) → r = (false, 0)) :
    ∀ (d i : Nat), i + d = l.length → ((∀ j, i ≤ j → j < l.length → -(tot l - 1) ≤ lag (sh l) (tot l) (ee days) (t + 1) j ∧ lag (sh l) (tot l) (ee days) (t + 1) j ≤ tot l - 1) → Ev (fun k => trishawref01_Quota.l0 k l days (tot l) cl (wrap64 (((t + 1 : Nat) : Int) + 1))) r) →
      Ev (fun k => trishawref01_Quota.l1 k l days (tot l) cl ((t + 1 : Nat) : Int) i) r := by
  intro d
  have hn := g.len
  have hcl := hc.len
  have hT := g.tot_pos
  have hT2 := g.tot_le
  have hp := g.pos
  induction d with
  | zero =>
    intro i hi h
    refine Ev.step (fun k => by rw [trishawref01_Quota.l1]) (ev_neg (by omega) (h fun j j1 j2 => by omega))
  | succ d ih =>
    intro i hi h
    obtain ⟨h1, h2, h3, h4⟩ := small_lag g (e := ee days) (t := t + 1) (i := i) (by omega) (by omega) (hc.at_ i (by omega))
    have q1 := Int.ediv_nonneg h1 (show 0 ≤ tot l by omega)
    have q2 := Int.ediv_le_self (tot l) h1
    have q3 := Int.ediv_nonneg (show 0 ≤ sh l i * ((t + 1 : Nat) : Int) + tot l - 1 by omega) (show 0 ≤ tot l by omega)
    have q4 := Int.ediv_le_self (tot l) (show 0 ≤ sh l i * ((t + 1 : Nat) : Int) + tot l - 1 by omega)
    refine Ev.step (fun k => by rw [trishawref01_Quota.l1]) (ev_pos (by omega) (ev_pos (by omega) (ev_pos (by omega) (ev_neg (by omega) ?_))))
    rw [rd_nat, rd_nat, show l.getD i 0 = sh l i from rfl, Int.mul_comm ((t + 1 : Nat) : Int) (sh l i), wrap_id (n := sh l i * ((t + 1 : Nat) : Int)) (by omega), wrap_id (n := (i : Int) + 1) (by omega), wrap_id (n := sh l i * ((t + 1 : Nat) : Int) + tot l) (by omega), wrap_id (n := sh l i * ((t + 1 : Nat) : Int) + tot l - 1) (by omega), Int.tdiv_eq_ediv_of_nonneg h1, Int.tdiv_eq_ediv_of_nonneg (show 0 ≤ sh l i * ((t + 1 : Nat) : Int) + tot l - 1 by omega), wrap_id (n := _ / tot l) (by omega), wrap_id (n := _ / tot l) (by omega)]
    have hq := quota_iff (T := tot l) (p := sh l i * ((t + 1 : Nat) : Int)) (c := cl.getD i 0) (by omega)
    have hlag : sh l i * ((t + 1 : Nat) : Int) - cl.getD i 0 * tot l = lag (sh l) (tot l) (ee days) (t + 1) i := by rw [lag_cnt, hc.at_ i (by omega)]
    rw [hlag] at hq
    have next : (cl.getD i 0 = sh l i * ((t + 1 : Nat) : Int) / tot l ∨ cl.getD i 0 = (sh l i * ((t + 1 : Nat) : Int) + tot l - 1) / tot l) → Ev (fun k => trishawref01_Quota.l1 k l days (tot l) cl ((t + 1 : Nat) : Int) ((i : Int) + 1)) r := fun hc' =>
      ih (i + 1) (by omega) (fun hj => h fun j j1 j2 => by
        by_cases c : j = i
        · subst c; exact hq.1 hc'
        · exact hj j (by omega) j2)
    by_cases c1 : cl.getD i 0 = sh l i * ((t + 1 : Nat) : Int) / tot l
    · exact ev_pos c1 (next (.inl c1))
    · refine ev_neg c1 ?_
      by_cases c2 : cl.getD i 0 = (sh l i * ((t + 1 : Nat) : Int) + tot l - 1) / tot l
      · exact ev_pos c2 (next (.inr c2))
      · rw [hbad ⟨i, by omega, fun hx => (hq.2 hx).elim c1 c2⟩]
        exact ev_neg c2 (Ev.now _)
theorem RefQuota_l0 {l : List Int} (g : Good l) {days : List Int} (hd : days.length ≤ 400) (hD : Days l.length days) : ∀ (d t : Nat) (cl : List Int), t + d = days.length → Cs cl l.length (cnt (ee days) t) →
    (∀ τ, τ ≤ t → ∀ j, j < l.length → -(tot l - 1) ≤ lag (sh l) (tot l) (ee days) τ j ∧ lag (sh l) (tot l) (ee days) τ j ≤ tot l - 1) →
    Ev (fun k => trishawref01_Quota.l0 k l days (tot l) cl ((t + 1 : Nat) : Int)) (decide (dev l days < tot l), 0) := by
  intro d
  have hn := g.len
  have hT := g.tot_pos
  have hp := g.pos
  have hdev : dev l days < tot l ↔ ∀ τ, τ ≤ days.length → ∀ j, j < l.length → -(tot l - 1) ≤ lag (sh l) (tot l) (ee days) τ j ∧ lag (sh l) (tot l) (ee days) τ j ≤ tot l - 1 := by
    rw [← wst_le (by omega)]
    show dev l days < tot l ↔ dev l days ≤ tot l - 1
    omega
  induction d with
  | zero =>
    intro t cl ht hc hok
    rw [decide_eq_true (hdev.2 fun τ hτ => hok τ (by omega))]
    exact Ev.step (fun k => by rw [trishawref01_Quota.l0]) (ev_neg (by omega) (Ev.now _))
  | succ d ih =>
    intro t cl ht hc hok
    have hcl := hc.len
    have hlt := hD.lt (t := t) (by omega)
    have hv := hD.val (t := t) (by omega)
    have hb : cl.getD (ee days t) 0 = (cnt (ee days) t (ee days t) : Int) := hc.at_ _ hlt
    have hb2 := cnt_le (ee days) (ee days t) t
    refine Ev.step (fun k => by rw [trishawref01_Quota.l0]) ?_
    rw [wrap_id (n := ((t + 1 : Nat) : Int) - 1) (by omega), show ((t + 1 : Nat) : Int) - 1 = (t : Int) by omega, rd_nat, hv, rd_nat]
    refine ev_pos (by omega) (ev_pos (by omega) (ev_pos (by omega) (ev_pos (by omega) (ev_pos (by omega) ?_))))
    rw [show ((ee days t : Nat) : Int).toNat = ee days t from Int.toNat_natCast _, wrap_id (n := cl.getD (ee days t) 0 + 1) (by omega)]
    have hc' := hc.bump hlt (v := cl.getD (ee days t) 0 + 1) rfl
    refine RefQuota_l1 g hd (by omega) hc' ?_ l.length 0 (by omega) fun hall => ?_
    · rintro ⟨j, hj, hx⟩
      rw [decide_eq_false fun h => hx (hdev.1 h (t + 1) (by omega) j hj)]
    · rw [wrap_id (n := ((t + 1 : Nat) : Int) + 1) (by omega)]
      exact ih (t + 1) _ (by omega) hc' fun τ hτ j hj => by
        by_cases c : τ = t + 1
        · subst c; exact hall j (by omega) hj
        · exact hok τ (by omega) j hj
theorem RefQuota_f (l days : List Int) : Ev (fun k => trishawref01_Quota.f k l days) (if sdE l days = 0 then (decide (dev l days < tot l), 0) else (false, sdE l days)) := by
  unfold trishawref01_Quota.f
  refine Ev.bind (asked_f l days) ?_
  by_cases hs : shE l = 0
  · have g := sh_good.1 hs
    have e : sdE l days = daE days l.length := if_pos hs
    rw [e, if_pos hs]
    by_cases hd : daE days l.length = 0
    · obtain ⟨h1, h2⟩ := da_ok.1 hd
      rw [if_pos hd]
      have := g.tot_pos; have := g.pos; have := g.len
      refine ev_pos hd (ev_pos (by omega) (ev_pos (by rw [Int.toNat_natCast]; omega) ?_))
      rw [Int.toNat_natCast]
      refine RefQuota_l0 g h1 h2 days.length 0 _ (by omega) (Cs.zero _) fun τ hτ j hj => ?_
      obtain rfl : τ = 0 := by omega
      show -(tot l - 1) ≤ 0 ∧ (0 : Int) ≤ tot l - 1
      omega
    · rw [if_neg hd]
      exact ev_neg hd (Ev.now _)
  · have e : sdE l days = shE l := if_neg hs
    rw [e, if_neg hs, if_neg hs]
    exact ev_neg hs (Ev.now _)
end Go.Proofs.YtgobffgogmnmpaaDoor.Pure
