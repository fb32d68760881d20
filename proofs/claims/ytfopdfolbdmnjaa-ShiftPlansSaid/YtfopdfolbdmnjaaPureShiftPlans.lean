/- The statement ShiftPlans, of what the walked functions compute: Plan and With are the document's. Conditions: none but the bounds of the law. -/
import Derived.Test.YtfopdfolbdmnjaaPx21
import Derived.Test.YtfopdfolbdmnjaaRefLst
import Derived.Test.YtfopdfolbdmnjaaWit
namespace Go.Proofs.Ytfopdfolbdmnjaa.Pure
open Go.RowKit Go.Proofs.Ytfopdfolbdmnjaa.P Go.Proofs.YtfopdfolbdmnjaaW.PrintWords Go.Proofs.YtfopdfolbdmnjaaW.PrintLast Go.Proofs.YtfopdfolbdmnjaaW.PrintMore

theorem reffirst_l1 {l : List Int} {t : Nat} (g : Good l t) {S : Int} (S0 : 0 ≤ S) (S1 : S ≤ 7200) {f : List Int} (hf : f.length < l.length) (hv : ∀ x, x ∈ f → 0 ≤ x ∧ x ≤ 7200) {v : Int} (st : Stp l t S f v) (r : List Int) (hr : Ev (fun k => trishawref07_first.l0 k l t S (f ++ [v])) r) : ∀ (d : Nat) (u : Int), 0 ≤ u → u + d = v →
    Ev (fun k => trishawref07_first.l1 k l t S f u) r := by
  intro d
  have hl := g.len
  have v0 := st.nonneg
  have v1 := st.le
  induction d with
  | zero =>
    intro u u0 hu
    obtain rfl : u = v := by omega
    have sm := small_fix g S0 S1 (f := f ++ [u]) (by rw [List.length_append, List.length_cons, List.length_nil]; omega) (fun x hx => by
      rcases List.mem_append.1 hx with hx | hx
      · exact hv x hx
      · obtain rfl : x = u := by simpa using hx
        omega)
    obtain ⟨z, e, hz⟩ := can_f sm
    refine Ev.step (fun k => by rw [trishawref07_first.l1]) ?_
    exact Ev.bind (clone_f f (by omega)) (ev_pos (by omega) (Ev.bind e (ev_pos (hz.2 st.can) (ev_pos (by omega) hr))))
  | succ d ih =>
    intro u u0 hu
    have sm := small_fix g S0 S1 (f := f ++ [u]) (by rw [List.length_append, List.length_cons, List.length_nil]; omega) (fun x hx => by
      rcases List.mem_append.1 hx with hx | hx
      · exact hv x hx
      · obtain rfl : x = u := by simpa using hx
        omega)
    obtain ⟨z, e, hz⟩ := can_f sm
    refine Ev.step (fun k => by rw [trishawref07_first.l1]) ?_
    refine Ev.bind (clone_f f (by omega)) (ev_pos (by omega) (Ev.bind e (ev_neg (fun h => st.low u u0 (by omega) (hz.1 h)) ?_)))
    rw [wrap_id (n := u + 1) (by omega)]
    exact ih (u + 1) (by omega) (by omega)
theorem reffirst_l0 {l : List Int} {t : Nat} (g : Good l t) {S : Int} (S0 : 0 ≤ S) (S1 : S ≤ 7200) : ∀ (d : Nat) (f : List Int), f.length + d = l.length → (∀ x, x ∈ f → 0 ≤ x ∧ x ≤ 7200) → Can l t 1 S f →
    ∃ p, Ev (fun k => trishawref07_first.l0 k l t S f) p ∧ PlanIs l t S f d p := by
  intro d
  induction d with
  | zero =>
    intro f hf hv hc
    refine ⟨f, Ev.step (fun k => by rw [trishawref07_first.l0]) ?_, rfl⟩
    exact ev_neg (by omega) (Ev.now _)
  | succ d ih =>
    intro f hf hv hc
    obtain ⟨v, st⟩ := go_on (by omega) hc
    have v0 := st.nonneg
    have v1 := st.le
    obtain ⟨p, e, h1⟩ := ih (f ++ [v]) (by rw [List.length_append, List.length_cons, List.length_nil]; omega) (fun x hx => by
      rcases List.mem_append.1 hx with hx | hx
      · exact hv x hx
      · obtain rfl : x = v := by simpa using hx
        omega) st.can
    refine ⟨p, Ev.step (fun k => by rw [trishawref07_first.l0]) ?_, ⟨v, st, h1⟩⟩
    exact ev_pos (by omega) (reffirst_l1 g S0 S1 (by omega) hv st p e v.toNat 0 (Int.le_refl _) (by omega))
theorem reffirst_f {l : List Int} {t : Nat} (g : Good l t) {S : Int} (S0 : 0 ≤ S) (S1 : S ≤ 7200) (hc : Can l t 1 S []) : ∃ p, Ev (fun k => trishawref07_first.f k l t S) p ∧ PlanIs l t S [] l.length p := by
  obtain ⟨p, e, h⟩ := reffirst_l0 g S0 S1 l.length [] (by simp) (fun x hx => by cases hx) hc
  refine ⟨p, ?_, h⟩
  unfold trishawref07_first.f
  exact e
theorem RefPlan_good {l : List Int} {t : Nat} (g : Good l t) {L : Int} (h : IsL l t 1 L) (hL : L ≤ 7200) : ∃ p, Ev (fun k => trishawref07_Plan.f k l t) (p, 0) ∧ PlanIs l t L [] l.length p := by
  obtain ⟨L', e1, h1⟩ := refleast_f g (T := 1) (by omega) (by omega)
  obtain rfl := h1.uniq h
  obtain ⟨p, e, hp⟩ := reffirst_f g h1.nonneg hL h1.can
  refine ⟨p, ?_, hp⟩
  unfold trishawref07_Plan.f
  exact Ev.bind (day_f l t) (ev_pos (day_good.2 g) (Ev.bind e1 (Ev.bind e (Ev.now _))))
theorem RefPlan_bad {l : List Int} {a : Int} (g : dayE l a ≠ 0) : Ev (fun k => trishawref07_Plan.f k l a) ([], dayE l a) := by
  unfold trishawref07_Plan.f
  exact Ev.bind (day_f l a) (ev_neg g (Ev.now _))
theorem refwith_go {l : List Int} {t : Nat} (g : Good l t) {S : Int} (S0 : 0 ≤ S) (S1 : S ≤ 600) {r : List Int × Int} (h : Ev (fun k => (trishawref07_can.f k l 1 t S []).bind fun t439 => if t439 = true then (trishawref07_first.f k l t S).bind fun t440 => some (t440, 0) else some ([], 10)) r) : Ev (fun k => trishawref07_With.f k l t S) r := by
  unfold trishawref07_With.f
  refine Ev.bind (day_f l t) (ev_pos (day_good.2 g) (ev_neg (by omega) ?_))
  rw [decide_eq_false (show ¬ S > 600 by omega)]
  refine Ev.step (fun k => by rw [trishawref07_With.j0]) ?_
  exact ev_neg Bool.false_ne_true h
theorem RefWith_good {l : List Int} {t : Nat} (g : Good l t) {S : Int} (S0 : 0 ≤ S) (S1 : S ≤ 600) (hc : Can l t 1 S []) : ∃ p, Ev (fun k => trishawref07_With.f k l t S) (p, 0) ∧ PlanIs l t S [] l.length p := by
  obtain ⟨p, e, h⟩ := reffirst_f g S0 (by omega) hc
  obtain ⟨z, ez, hz⟩ := can_f (small_of g (T := 1) (S := S) (by omega) (by omega) (by omega) (by omega))
  exact ⟨p, refwith_go g S0 S1 (Ev.bind ez (ev_pos (hz.2 hc) (Ev.bind e (Ev.now _)))), h⟩
theorem RefWith_none {l : List Int} {t : Nat} (g : Good l t) {S : Int} (S0 : 0 ≤ S) (S1 : S ≤ 600) (hc : ¬ Can l t 1 S []) : Ev (fun k => trishawref07_With.f k l t S) ([], 10) := by
  obtain ⟨z, ez, hz⟩ := can_f (small_of g (T := 1) (S := S) (by omega) (by omega) (by omega) (by omega))
  exact refwith_go g S0 S1 (Ev.bind ez (ev_neg (fun h => hc (hz.1 h)) (Ev.now _)))
theorem RefWith_out {l : List Int} {t : Nat} (g : Good l t) {S : Int} (h : S < 0 ∨ S > 600) : Ev (fun k => trishawref07_With.f k l t S) ([], 2) := by
  have out : Ev (fun k => trishawref07_With.j0 k l t S true) ([], 2) := by
    refine Ev.step (fun k => by rw [trishawref07_With.j0]) ?_
    exact ev_pos rfl (Ev.now _)
  unfold trishawref07_With.f
  refine Ev.bind (day_f l t) (ev_pos (day_good.2 g) ?_)
  by_cases c : S < 0
  · exact ev_pos c out
  · refine ev_neg c ?_
    rw [decide_eq_true (show S > 600 by omega)]
    exact out
theorem RefWith_bad {l : List Int} {a S : Int} (g : dayE l a ≠ 0) : Ev (fun k => trishawref07_With.f k l a S) ([], dayE l a) := by
  unfold trishawref07_With.f
  exact Ev.bind (day_f l a) (ev_neg g (Ev.now _))
theorem plan_same (l : List Int) (a : Int) : ∃ w, Ev (fun k => shift_Plan.f k l a) w ∧ Ev (fun k => trishawref07_Plan.f k l a) w ∧ w.1.length ≤ 12 := by
  by_cases hg : dayE l a = 0
  · have g := day_good.1 hg
    obtain ⟨t, rfl⟩ := g.nat
    obtain ⟨L, _, h1, h2⟩ := Least_good g
    obtain ⟨p, e1, h3, h4, _⟩ := Plan_good g h1
    obtain ⟨p', e2, h5⟩ := RefPlan_good g h1 h2
    obtain rfl := PlanIs.uniq _ _ _ _ h3 h5
    exact ⟨_, e1, e2, by have := g.len; dsimp only; omega⟩
  · exact ⟨_, Plan_bad hg, RefPlan_bad hg, Nat.zero_le _⟩
theorem with_same (l : List Int) (a S : Int) : ∃ w, Ev (fun k => shift_With.f k l a S) w ∧ Ev (fun k => trishawref07_With.f k l a S) w ∧ w.1.length ≤ 12 := by
  by_cases hg : dayE l a = 0
  · have g := day_good.1 hg
    obtain ⟨t, rfl⟩ := g.nat
    by_cases hS : S < 0 ∨ S > 600
    · exact ⟨_, With_out g hS, RefWith_out g hS, Nat.zero_le _⟩
    · by_cases hc : Can l t 1 S []
      · obtain ⟨p, e1, h3, h4, _⟩ := With_good g (by omega) (by omega) hc
        obtain ⟨p', e2, h5⟩ := RefWith_good g (by omega) (by omega) hc
        obtain rfl := PlanIs.uniq _ _ _ _ h3 h5
        exact ⟨_, e1, e2, by have := g.len; dsimp only; omega⟩
      · exact ⟨_, With_none g (by omega) (by omega) hc, RefWith_none g (by omega) (by omega) hc, Nat.zero_le _⟩
  · exact ⟨_, With_bad hg, RefWith_bad hg, Nat.zero_le _⟩
theorem ne_false2 {a : Int} : ((a != a) = true) → False := by simp
theorem ShiftPlans : trishawlaw07_ShiftPlans.Pure := by
  intro l a S hl _ _ _ _
  refine Ev.rounds (g := fun k => trishawlaw07_ShiftPlans.f k l a S) ?_
  unfold trishawlaw07_ShiftPlans.f
  rw [few_f]
  by_cases hf : decide (l.length ≤ 40 ∧ ([] : List Int).length ≤ 100) = true
  · obtain ⟨w, e1, e2, h1⟩ := plan_same l a
    obtain ⟨w', e3, e4, h2⟩ := with_same l a S
    refine ev_pos hf (Ev.bind e1 (Ev.bind e2 (Ev.bind (same_f w.1 (by omega)) (ev_pos rfl ?_))))
    refine Ev.step (fun k => by rw [trishawlaw07_ShiftPlans.j0]) ?_
    exact ev_neg ne_false2 (Ev.bind e3 (Ev.bind e4 (Ev.bind (same_f w'.1 (by omega)) (ev_pos rfl (ev_pos rfl alive_ev')))))
  · exact ev_neg hf alive_ev'
end Go.Proofs.Ytfopdfolbdmnjaa.Pure
