/- What Plan answers: the plan that is lexicographically first, number by number. Conditions: one to twelve hours, needs of 0 to 50. -/
import Derived.Test.YtfopdfolbdmnjaaPx9
import Derived.Test.YtfopdfolbdmnjaaLst
namespace Go.Proofs.Ytfopdfolbdmnjaa.Pure
open Go.RowKit Go.Proofs.Ytfopdfolbdmnjaa.P Go.Proofs.YtfopdfolbdmnjaaW.PrintWords Go.Proofs.YtfopdfolbdmnjaaW.PrintLast Go.Proofs.YtfopdfolbdmnjaaW.PrintMore

/-- The least number with which the plan can go on. -/
structure Stp (l : List Int) (t : Nat) (S : Int) (f : List Int) (v : Int) : Prop where
  nonneg : 0 ≤ v
  le : v ≤ S
  can : Can l t 1 S (f ++ [v])
  low : ∀ u, 0 ≤ u → u < v → ¬ Can l t 1 S (f ++ [u])
theorem Stp.uniq {l : List Int} {t : Nat} {S : Int} {f : List Int} {v v' : Int} (a : Stp l t S f v) (b : Stp l t S f v') : v = v' := by
  by_cases h : v < v'
  · exact absurd a.can (b.low _ a.nonneg h)
  · by_cases h' : v' < v
    · exact absurd b.can (a.low _ b.nonneg h')
    · omega
/-- p goes on from f, each number the least. -/
def PlanIs (l : List Int) (t : Nat) (S : Int) : List Int → Nat → List Int → Prop
  | f, 0, p => p = f
  | f, d + 1, p => ∃ v, Stp l t S f v ∧ PlanIs l t S (f ++ [v]) d p
theorem PlanIs.uniq {l : List Int} {t : Nat} {S : Int} : ∀ (d : Nat) (f p p' : List Int), PlanIs l t S f d p → PlanIs l t S f d p' → p = p' := by
  intro d
  induction d with
  | zero => intro f p p' h h'; exact h.trans h'.symm
  | succ d ih =>
    intro f p p' ⟨v, h1, h2⟩ ⟨v', h1', h2'⟩
    obtain rfl := h1.uniq h1'
    exact ih _ _ _ h2 h2'
theorem fixed_snoc (f : List Int) (v : Int) (y : Nat → Int) : Fixed (f ++ [v]) y ↔ Fixed f y ∧ y (f.length + 1) = y f.length + v := by
  have e1 : ∀ j, j < f.length → (f ++ [v]).getD j 0 = f.getD j 0 := by
    intro j hj
    rw [List.getD_eq_getElem?_getD, List.getD_eq_getElem?_getD, List.getElem?_append_left hj]
  have e2 : (f ++ [v]).getD f.length 0 = v := by
    rw [List.getD_eq_getElem?_getD, List.getElem?_append_right (Nat.le_refl _), Nat.sub_self]; rfl
  unfold Fixed
  constructor
  · intro h
    refine ⟨fun j hj => ?_, ?_⟩
    · have := h j (by rw [List.length_append]; omega); rwa [e1 j hj] at this
    · have := h f.length (by rw [List.length_append, List.length_cons]; omega); rwa [e2] at this
  · intro ⟨h1, h2⟩ j hj
    rw [List.length_append, List.length_cons, List.length_nil] at hj
    by_cases c : j < f.length
    · rw [e1 j c]; exact h1 j c
    · obtain rfl : j = f.length := by omega
      rw [e2]; exact h2
/-- A plan that begins so goes on with some number. -/
theorem go_on {l : List Int} {t : Nat} {S : Int} {f : List Int} (hf : f.length < l.length) (h : Can l t 1 S f) : ∃ v, Stp l t S f v := by
  obtain ⟨y, c, hy⟩ := h
  have h1 := c.up f.length hf
  have h2 := c.le (Nat.zero_le f.length) (by omega)
  have h3 := c.le (show f.length + 1 ≤ l.length by omega) (Nat.le_refl _)
  have h4 := c.size
  have hv : Can l t 1 S (f ++ [y (f.length + 1) - y f.length]) := ⟨y, c, (fixed_snoc f _ y).2 ⟨hy, by omega⟩⟩
  have main : ∀ (d : Nat) (v : Int), 0 ≤ v → v ≤ d → v ≤ S → Can l t 1 S (f ++ [v]) → ∃ v, Stp l t S f v := by
    intro d
    induction d with
    | zero => intro v v0 v1 vS hc; exact ⟨v, v0, vS, hc, fun u u0 uv => by omega⟩
    | succ d ih =>
      intro v v0 v1 vS hc
      by_cases hl : ∃ u, 0 ≤ u ∧ u < v ∧ Can l t 1 S (f ++ [u])
      · obtain ⟨u, u0, uv, hu⟩ := hl
        exact ih u u0 (by omega) (by omega) hu
      · exact ⟨v, v0, vS, hc, fun u u0 uv hu => hl ⟨u, u0, uv, hu⟩⟩
  exact main (y (f.length + 1) - y f.length).toNat _ (by omega) (by omega) (by omega) hv
theorem small_fix {l : List Int} {t : Nat} (g : Good l t) {S : Int} (S0 : 0 ≤ S) (S1 : S ≤ 7200) {f : List Int} (hf : f.length ≤ l.length) (hv : ∀ x, x ∈ f → 0 ≤ x ∧ x ≤ 7200) : Small l t 1 S f :=
  ⟨g.len, g.pos, g.low, g.high, by have := g.one; omega, by have := g.top; omega, by omega, by omega, by omega, by omega, hf, fun x hx => by have := hv x hx; omega⟩
theorem first_l1 {l : List Int} {t : Nat} (g : Good l t) {S : Int} (S0 : 0 ≤ S) (S1 : S ≤ 7200) {f : List Int} (hf : f.length < l.length) (hv : ∀ x, x ∈ f → 0 ≤ x ∧ x ≤ 7200) {v : Int} (st : Stp l t S f v) (r : List Int) (hr : Ev (fun k => shift_clock_first.l0 k S (f ++ [v]) ((f.length : Int) + 1) l t) r) : ∀ (d : Nat) (u : Int), 0 ≤ u → u + d = v →
    Ev (fun k => shift_clock_first.l1 k S f u f.length l t) r := by
  intro d
  have hl := g.len
  have v0 := st.nonneg
  have v1 := st.le
  induction d with
  | zero =>
    intro u u0 hu
    obtain rfl : u = v := by omega
    have sm := small_fix g S0 S1 (f := f ++ [u]) (by rw [List.length_append, List.length_cons, List.length_nil]; omega) (fun x hx => by
      rcases List.mem_append.1 hx with hx | hx
      · exact hv x hx
      · obtain rfl : x = u := by simpa using hx
        omega)
    obtain ⟨z, e, hz⟩ := solve_f sm
    refine Ev.step (fun k => by rw [shift_clock_first.l1]) (ev_pos (by omega) (Ev.bind (bounds_f sm) (Ev.bind e (ev_pos (hz.2 st.can) ?_))))
    rw [wrap_id (n := (f.length : Int) + 1) (by omega)]
    exact hr
  | succ d ih =>
    intro u u0 hu
    have sm := small_fix g S0 S1 (f := f ++ [u]) (by rw [List.length_append, List.length_cons, List.length_nil]; omega) (fun x hx => by
      rcases List.mem_append.1 hx with hx | hx
      · exact hv x hx
      · obtain rfl : x = u := by simpa using hx
        omega)
    obtain ⟨z, e, hz⟩ := solve_f sm
    refine Ev.step (fun k => by rw [shift_clock_first.l1]) (ev_pos (by omega) (Ev.bind (bounds_f sm) (Ev.bind e (ev_neg (fun h => st.low u u0 (by omega) (hz.1 h)) ?_))))
    rw [wrap_id (n := u + 1) (by omega)]
    exact ih (u + 1) (by omega) (by omega)
theorem first_l0 {l : List Int} {t : Nat} (g : Good l t) {S : Int} (S0 : 0 ≤ S) (S1 : S ≤ 7200) : ∀ (d : Nat) (f : List Int), f.length + d = l.length → (∀ x, x ∈ f → 0 ≤ x ∧ x ≤ 7200) → Can l t 1 S f →
    ∃ p, Ev (fun k => shift_clock_first.l0 k S f f.length l t) p ∧ PlanIs l t S f d p ∧ p.length = l.length ∧ (∀ x, x ∈ p → 0 ≤ x ∧ x ≤ 7200) ∧ Can l t 1 S p := by
  intro d
  induction d with
  | zero => intro f hf hv hc; exact ⟨f, Ev.step (fun k => by rw [shift_clock_first.l0]) (ev_neg (by omega) (Ev.now _)), rfl, by omega, hv, hc⟩
  | succ d ih =>
    intro f hf hv hc
    obtain ⟨v, st⟩ := go_on (by omega) hc
    have v0 := st.nonneg
    have v1 := st.le
    obtain ⟨p, e, h1, h2, h3, h4⟩ := ih (f ++ [v]) (by rw [List.length_append, List.length_cons, List.length_nil]; omega) (fun x hx => by
      rcases List.mem_append.1 hx with hx | hx
      · exact hv x hx
      · obtain rfl : x = v := by simpa using hx
        omega) st.can
    refine ⟨p, Ev.step (fun k => by rw [shift_clock_first.l0]) (ev_pos (by omega) ?_), ⟨v, st, h1⟩, h2, h3, h4⟩
    refine first_l1 g S0 S1 (by omega) hv st p ?_ v.toNat 0 (Int.le_refl _) (by omega)
    rw [List.length_append, List.length_cons, List.length_nil] at e
    exact e
/-- The first plan of a size, or none. -/
theorem first_f {l : List Int} {t : Nat} (g : Good l t) {S : Int} (S0 : 0 ≤ S) (S1 : S ≤ 7200) (hc : Can l t 1 S []) : ∃ p, Ev (fun k => shift_clock_first.f k l t S) p ∧ PlanIs l t S [] l.length p ∧ p.length = l.length ∧ (∀ x, x ∈ p → 0 ≤ x ∧ x ≤ 7200) ∧ Can l t 1 S p := by
  obtain ⟨p, e, h⟩ := first_l0 g S0 S1 l.length [] (by simp) (fun x hx => by cases hx) hc
  have sm := small_of g (T := 1) (S := S) (by omega) (by omega) (by omega) (by omega)
  obtain ⟨z, ez, hz⟩ := solve_f sm
  refine ⟨p, ?_, h⟩
  unfold shift_clock_first.f
  exact Ev.bind (bounds_f sm) (Ev.bind ez (ev_pos (hz.2 hc) e))
theorem first_none {l : List Int} {t : Nat} (g : Good l t) {S : Int} (S0 : 0 ≤ S) (S1 : S ≤ 7200) (hc : ¬ Can l t 1 S []) : Ev (fun k => shift_clock_first.f k l t S) [] := by
  have sm := small_of g (T := 1) (S := S) (by omega) (by omega) (by omega) (by omega)
  obtain ⟨z, ez, hz⟩ := solve_f sm
  unfold shift_clock_first.f
  exact Ev.bind (bounds_f sm) (Ev.bind ez (ev_neg (fun h => hc (hz.1 h)) (Ev.now _)))
theorem Plan_good {l : List Int} {t : Nat} (g : Good l t) {L : Int} (h : IsL l t 1 L) : ∃ p, Ev (fun k => shift_Plan.f k l t) (p, 0) ∧ PlanIs l t L [] l.length p ∧ p.length = l.length ∧ (∀ x, x ∈ p → 0 ≤ x ∧ x ≤ 7200) ∧ Can l t 1 L p := by
  obtain ⟨L', c, e1, h1, h2⟩ := least_f g (T := 1) (by omega) (by omega)
  obtain rfl := h1.uniq h
  obtain ⟨p, e, hp⟩ := first_f g h1.nonneg h2 h1.can
  refine ⟨p, ?_, hp⟩
  unfold shift_Plan.f
  exact Ev.bind (read_good g) (ev_pos rfl (Ev.bind e1 (Ev.bind e (Ev.now _))))
theorem Plan_bad {l : List Int} {a : Int} (g : dayE l a ≠ 0) : Ev (fun k => shift_Plan.f k l a) ([], dayE l a) := by
  unfold shift_Plan.f
  exact Ev.bind (read_bad g) (ev_neg g (Ev.now _))
end Go.Proofs.Ytfopdfolbdmnjaa.Pure
