/- What the small readers of the shift package and of the document answer, and that the closed example is awake. Conditions: none. -/
import Derived.Test.YtfopdfolbdmnjaaPx9
namespace Go.Proofs.Ytfopdfolbdmnjaa.Pure
open Go.RowKit Go.Proofs.Ytfopdfolbdmnjaa.P Go.Proofs.YtfopdfolbdmnjaaW.PrintWords Go.Proofs.YtfopdfolbdmnjaaW.PrintLast Go.Proofs.YtfopdfolbdmnjaaW.PrintMore

theorem alive60 : trishawlaw07_alive.f 60 = some true := by decide +kernel
theorem alive_ev : Ev (fun k => trishawlaw07_alive.f k) true := Ev.of (fun k => trishawlaw07_alive.mono k) alive60
theorem alive_ev' : Ev (fun k => (trishawlaw07_alive.f k).bind fun t => some t) true := Ev.bind alive_ev (Ev.now true)

theorem ev_pos {c : Prop} [Decidable c] {α : Type} {A B : Nat → Option α} {r : α} (hc : c) (h : Ev A r) : Ev (fun k => if c then A k else B k) r := by
  simp only [if_pos hc]; exact h
theorem ev_neg {c : Prop} [Decidable c] {α : Type} {A B : Nat → Option α} {r : α} (hc : ¬ c) (h : Ev B r) : Ev (fun k => if c then A k else B k) r := by
  simp only [if_neg hc]; exact h
theorem wrap_id {n : Int} (h : -9223372036854775808 ≤ n ∧ n < 9223372036854775808) : wrap64 n = n := by unfold wrap64; omega
theorem rd_nat (l : List Int) (i : Nat) : rd l (i : Int) = l.getD i 0 := by simp [rd]
theorem getD_mem {l : List Int} {i : Nat} (h : i < l.length) : l.getD i 0 ∈ l := by
  rw [List.getD_eq_getElem?_getD, List.getElem?_eq_getElem h]; exact List.getElem_mem h
theorem mem_getD {l : List Int} {x : Int} (h : x ∈ l) : ∃ i, i < l.length ∧ l.getD i 0 = x := by
  obtain ⟨i, hi, rfl⟩ := List.getElem_of_mem h
  exact ⟨i, hi, by rw [List.getD_eq_getElem?_getD, List.getElem?_eq_getElem hi]; rfl⟩

theorem min_l0 (l : List Int) (hl : l.length < 4611686018427387904) : ∀ (d i : Nat) (m : Int), i + d = l.length → m ∈ l → (∀ j, j < i → m ≤ l.getD j 0) →
    ∃ m', Ev (fun k => slices_Min_int_int.l0 k l m i) m' ∧ m' ∈ l ∧ ∀ x ∈ l, m' ≤ x := by
  intro d
  induction d with
  | zero =>
    intro i m hi hm hj
    refine ⟨m, Ev.step (fun k => by rw [slices_Min_int_int.l0]) (ev_neg (by omega) (Ev.now _)), hm, fun x hx => ?_⟩
    obtain ⟨j, hjl, rfl⟩ := mem_getD hx
    exact hj j (by omega)
  | succ d ih =>
    intro i m hi hm hj
    obtain ⟨m', e, h1, h2⟩ := ih (i + 1) (mn m (l.getD i 0)) (by omega) (by
      unfold mn; split
      · exact getD_mem (by omega)
      · exact hm) (by
      intro j hj'
      unfold mn
      by_cases hji : j = i
      · subst hji; split <;> omega
      · have := hj j (by omega); split <;> omega)
    refine ⟨m', Ev.step (fun k => by rw [slices_Min_int_int.l0]) (ev_pos (by omega) (ev_pos (by omega) ?_)), h1, h2⟩
    rw [rd_nat, wrap_id (by omega)]
    exact e
theorem min_f (l : List Int) (hl : l.length < 4611686018427387904) (h0 : 0 < l.length) : ∃ m, Ev (fun k => slices_Min_int_int.f k l) m ∧ m ∈ l ∧ ∀ x ∈ l, m ≤ x := by
  obtain ⟨m, e, h1, h2⟩ := min_l0 l hl (l.length - 1) 1 (l.getD 0 0) (by omega) (getD_mem h0) (fun j hj => by rw [show j = 0 by omega]; exact Int.le_refl _)
  refine ⟨m, ?_, h1, h2⟩
  unfold slices_Min_int_int.f
  exact ev_neg (by omega) (ev_pos (by omega) e)
theorem max_l0 (l : List Int) (hl : l.length < 4611686018427387904) : ∀ (d i : Nat) (m : Int), i + d = l.length → m ∈ l → (∀ j, j < i → l.getD j 0 ≤ m) →
    ∃ m', Ev (fun k => slices_Max_int_int.l0 k l m i) m' ∧ m' ∈ l ∧ ∀ x ∈ l, x ≤ m' := by
  intro d
  induction d with
  | zero =>
    intro i m hi hm hj
    refine ⟨m, Ev.step (fun k => by rw [slices_Max_int_int.l0]) (ev_neg (by omega) (Ev.now _)), hm, fun x hx => ?_⟩
    obtain ⟨j, hjl, rfl⟩ := mem_getD hx
    exact hj j (by omega)
  | succ d ih =>
    intro i m hi hm hj
    obtain ⟨m', e, h1, h2⟩ := ih (i + 1) (mx m (l.getD i 0)) (by omega) (by
      unfold mx; split
      · exact getD_mem (by omega)
      · exact hm) (by
      intro j hj'
      unfold mx
      by_cases hji : j = i
      · subst hji; split <;> omega
      · have := hj j (by omega); split <;> omega)
    refine ⟨m', Ev.step (fun k => by rw [slices_Max_int_int.l0]) (ev_pos (by omega) (ev_pos (by omega) ?_)), h1, h2⟩
    rw [rd_nat, wrap_id (by omega)]
    exact e
theorem max_f (l : List Int) (hl : l.length < 4611686018427387904) (h0 : 0 < l.length) : ∃ m, Ev (fun k => slices_Max_int_int.f k l) m ∧ m ∈ l ∧ ∀ x ∈ l, x ≤ m := by
  obtain ⟨m, e, h1, h2⟩ := max_l0 l hl (l.length - 1) 1 (l.getD 0 0) (by omega) (getD_mem h0) (fun j hj => by rw [show j = 0 by omega]; exact Int.le_refl _)
  refine ⟨m, ?_, h1, h2⟩
  unfold slices_Max_int_int.f
  exact ev_neg (by omega) (ev_pos (by omega) e)

/-- The needs are of one to twelve hours, each of 0 to 50. -/
def needsE (l : List Int) : Int := if l.length > 12 then 3 else if l.length = 0 then 2 else if ∃ x ∈ l, x < 0 ∨ x > 50 then 2 else 0
/-- What the document answers to needs and a length of the shifts. -/
def dayE (l : List Int) (t : Int) : Int := if needsE l = 0 then (if t < 1 then 2 else if t > (l.length : Int) then 2 else 0) else needsE l
structure Good (l : List Int) (t : Int) : Prop where
  len : l.length ≤ 12
  pos : 0 < l.length
  low : ∀ x ∈ l, 0 ≤ x
  high : ∀ x ∈ l, x ≤ 50
  one : 1 ≤ t
  top : t ≤ (l.length : Int)
theorem needs_zero {l : List Int} : needsE l = 0 ↔ l.length ≤ 12 ∧ 0 < l.length ∧ (∀ x ∈ l, 0 ≤ x) ∧ ∀ x ∈ l, x ≤ 50 := by
  unfold needsE
  constructor
  · intro h
    split at h
    · cases h
    split at h
    · cases h
    split at h
    · cases h
    rename_i h1 h2 h3
    refine ⟨by omega, by omega, fun x hx => Int.not_lt.1 fun h => h3 ⟨x, hx, .inl h⟩, fun x hx => Int.not_lt.1 fun h => h3 ⟨x, hx, .inr h⟩⟩
  · intro ⟨h1, h2, h3, h4⟩
    rw [if_neg (by omega), if_neg (by omega), if_neg (by
      intro ⟨x, hx, h⟩; have := h3 x hx; have := h4 x hx; omega)]
theorem day_good {l : List Int} {t : Int} : dayE l t = 0 ↔ Good l t := by
  unfold dayE
  constructor
  · intro h
    by_cases hn : needsE l = 0
    · obtain ⟨h1, h2, h3, h4⟩ := needs_zero.1 hn
      rw [if_pos hn] at h
      split at h
      · cases h
      split at h
      · cases h
      exact ⟨h1, h2, h3, h4, by omega, by omega⟩
    · rw [if_neg hn] at h; exact absurd h hn
  · intro ⟨h1, h2, h3, h4, h5, h6⟩
    rw [if_pos (needs_zero.2 ⟨h1, h2, h3, h4⟩), if_neg (by omega), if_neg (by omega)]
theorem day_cases (l : List Int) (t : Int) : dayE l t = 0 ∨ dayE l t = 2 ∨ dayE l t = 3 := by
  unfold dayE needsE; repeat' split
  all_goals simp_all

theorem needs_l0 (l : List Int) (h0 : 0 < l.length) (hl : l.length ≤ 12) : ∀ (d i : Nat), i + d = l.length → (∀ j, j < i → 0 ≤ l.getD j 0 ∧ l.getD j 0 ≤ 50) →
    Ev (fun k => trishawref07_Needs.l0 k l i) (needsE l) := by
  intro d
  induction d with
  | zero =>
    intro i hi hj
    rw [needs_zero.2 ⟨hl, h0, fun x hx => by obtain ⟨j, hjl, rfl⟩ := mem_getD hx; exact (hj j (by omega)).1, fun x hx => by obtain ⟨j, hjl, rfl⟩ := mem_getD hx; exact (hj j (by omega)).2⟩]
    exact Ev.step (fun k => by rw [trishawref07_Needs.l0]) (ev_neg (by omega) (Ev.now _))
  | succ d ih =>
    intro i hi hj
    have bad : (l.getD i 0 < 0 ∨ l.getD i 0 > 50) → needsE l = 2 := by
      intro h
      unfold needsE
      rw [if_neg (by omega), if_neg (by omega), if_pos ⟨_, getD_mem (by omega), h⟩]
    refine Ev.step (fun k => by rw [trishawref07_Needs.l0]) (ev_pos (by omega) (ev_pos (by omega) ?_))
    rw [rd_nat, wrap_id (by omega)]
    by_cases h1 : l.getD i 0 < 0
    · rw [bad (.inl h1)]; exact ev_pos h1 (Ev.now _)
    · refine ev_neg h1 ?_
      by_cases h2 : l.getD i 0 > 50
      · rw [bad (.inr h2)]; exact ev_pos h2 (Ev.now _)
      · refine ev_neg h2 (ih (i + 1) (by omega) ?_)
        intro j hj'
        by_cases hji : j = i
        · subst hji; omega
        · exact hj j (by omega)
theorem needs_f (l : List Int) : Ev (fun k => trishawref07_Needs.f k l) (needsE l) := by
  unfold trishawref07_Needs.f
  by_cases h1 : l.length > 12
  · rw [show needsE l = 3 from if_pos h1]
    exact ev_pos (by omega) (Ev.now _)
  · refine ev_neg (by omega) ?_
    by_cases h2 : l.length = 0
    · rw [show needsE l = 2 by unfold needsE; rw [if_neg h1, if_pos h2]]
      exact ev_pos (by omega) (Ev.now _)
    · exact ev_neg (by omega) (needs_l0 l (by omega) (by omega) l.length 0 (by omega) (fun j hj => by omega))
theorem day_f (l : List Int) (t : Int) : Ev (fun k => trishawref07_Day.f k l t) (dayE l t) := by
  unfold trishawref07_Day.f
  refine Ev.bind (needs_f l) ?_
  by_cases h : needsE l = 0
  · refine ev_pos h ?_
    by_cases h1 : t < 1
    · rw [show dayE l t = 2 by unfold dayE; rw [if_pos h, if_pos h1]]
      exact ev_pos h1 (Ev.now _)
    · refine ev_neg h1 ?_
      by_cases h2 : t > (l.length : Int)
      · rw [show dayE l t = 2 by unfold dayE; rw [if_pos h, if_neg h1, if_pos h2]]
        exact ev_pos h2 (Ev.now _)
      · rw [show dayE l t = needsE l by unfold dayE; rw [if_pos h, if_neg h1, if_neg h2, h]]
        exact ev_neg h2 (Ev.now _)
  · rw [show dayE l t = needsE l by unfold dayE; rw [if_neg h]]
    exact ev_neg h (Ev.now _)
theorem read_f (l : List Int) (t : Int) : Ev (fun k => shift_read.f k l t) (if dayE l t = 0 then (l, t, 0) else ([], 0, dayE l t)) := by
  unfold shift_read.f
  by_cases h1 : l.length > 12
  · rw [show dayE l t = 3 by unfold dayE; rw [show needsE l = 3 from if_pos h1]; rfl]
    exact ev_pos (by omega) (Ev.now _)
  refine ev_neg (by omega) ?_
  by_cases h2 : l.length = 0
  · rw [show dayE l t = 2 by unfold dayE; rw [show needsE l = 2 by unfold needsE; rw [if_neg h1, if_pos h2]]; rfl]
    exact ev_pos (by omega) (Ev.now _)
  refine ev_neg (by omega) ?_
  have bad : (∃ x ∈ l, x < 0 ∨ x > 50) → dayE l t = 2 := by
    intro h; unfold dayE; rw [show needsE l = 2 by unfold needsE; rw [if_neg h1, if_neg h2, if_pos h]]; rfl
  obtain ⟨m, e, hm, hm'⟩ := min_f l (by omega) (by omega)
  refine Ev.bind e ?_
  by_cases h3 : m < 0
  · rw [bad ⟨m, hm, .inl h3⟩]; exact ev_pos h3 (Ev.now _)
  refine ev_neg h3 ?_
  obtain ⟨m2, e2, hm2, hm2'⟩ := max_f l (by omega) (by omega)
  refine Ev.bind e2 ?_
  by_cases h4 : m2 > 50
  · rw [bad ⟨m2, hm2, .inr h4⟩]; exact ev_pos h4 (Ev.now _)
  refine ev_neg h4 ?_
  have hz : needsE l = 0 := needs_zero.2 ⟨by omega, by omega, fun x hx => by have := hm' x hx; omega, fun x hx => by have := hm2' x hx; omega⟩
  by_cases h5 : t < 1
  · rw [show dayE l t = 2 by unfold dayE; rw [if_pos hz, if_pos h5]]
    exact ev_pos h5 (Ev.now _)
  refine ev_neg h5 ?_
  by_cases h6 : t > (l.length : Int)
  · rw [show dayE l t = 2 by unfold dayE; rw [if_pos hz, if_neg h5, if_pos h6]]
    exact ev_pos h6 (Ev.now _)
  rw [show dayE l t = 0 by unfold dayE; rw [if_pos hz, if_neg h5, if_neg h6]]
  exact ev_neg h6 (Ev.now _)
theorem read_good {l : List Int} {t : Int} (g : Good l t) : Ev (fun k => shift_read.f k l t) (l, t, 0) := by
  have := read_f l t; rwa [if_pos (day_good.2 g)] at this
theorem read_bad {l : List Int} {t : Int} (g : dayE l t ≠ 0) : Ev (fun k => shift_read.f k l t) ([], 0, dayE l t) := by
  have := read_f l t; rwa [if_neg g] at this

theorem same_l0 (l : List Int) (hl : l.length < 4611686018427387904) : ∀ (d i : Nat), i + d = l.length → Ev (fun k => trishawlaw07_same.l0 k l l i) true := by
  intro d
  induction d with
  | zero => intro i hi; exact Ev.step (fun k => by rw [trishawlaw07_same.l0]) (ev_neg (by omega) (Ev.now _))
  | succ d ih =>
    intro i hi
    refine Ev.step (fun k => by rw [trishawlaw07_same.l0]) (ev_pos (by omega) (ev_pos (by omega) (ev_pos (by omega) (ev_pos rfl ?_))))
    rw [wrap_id (by omega)]
    exact ih (i + 1) (by omega)
/-- Two lists that are one list are the same. -/
theorem same_f (l : List Int) (hl : l.length < 4611686018427387904) : Ev (fun k => trishawlaw07_same.f k l l) true := by
  unfold trishawlaw07_same.f
  exact ev_pos rfl (same_l0 l hl l.length 0 (by omega))
theorem clone_f (l : List Int) (h : l.length < 17592186044416) : Ev (fun _ => slices_Clone_int_int.f l) l := by
  unfold slices_Clone_int_int.f
  exact ev_pos h (Ev.now _)
theorem few_f (l m : List Int) : trishawlaw07_few.f l m = some (decide (l.length ≤ 40 ∧ m.length ≤ 100)) := by
  unfold trishawlaw07_few.f
  by_cases h : (l.length : Int) ≤ 40
  · rw [if_pos h]; congr 1; apply decide_eq_decide.2; omega
  · rw [if_neg h]; congr 1; symm; apply decide_eq_false; omega

end Go.Proofs.Ytfopdfolbdmnjaa.Pure
