/- What the small readers of the turn package answer, and that the closed example is awake. Conditions: none but sizes. -/
import Derived.Test.YtgobffgogmnmpaaDoorPx3
import Derived.Test.YtgobffgogmnmpaaDoorPx4
import Derived.Test.YtgobffgogmnmpaaDoorPx8
import Derived.Test.YtgobffgogmnmpaaDoorPx10
import Derived.Test.YtgobffgogmnmpaaDoorEdf
namespace Go.Proofs.YtgobffgogmnmpaaDoor.Pure
open Go.RowKit Go.Proofs.YtgobffgogmnmpaaDoor.P Go.Proofs.YtgobffgogmnmpaaDoorW.PrintWords Go.Proofs.YtgobffgogmnmpaaDoorW.PrintLast Go.Proofs.YtgobffgogmnmpaaDoorW.PrintMore

theorem alive80 : trishawlaw01_alive.f 80 = some true := by decide +kernel
theorem alive_ev : Ev (fun k => trishawlaw01_alive.f k) true := Ev.of (fun k => trishawlaw01_alive.mono k) alive80
theorem alive_ev' : Ev (fun k => (trishawlaw01_alive.f k).bind fun t => some t) true := Ev.bind alive_ev (Ev.now true)

theorem ev_pos {c : Prop} [Decidable c] {α : Type} {A B : Nat → Option α} {r : α} (hc : c) (h : Ev A r) : Ev (fun k => if c then A k else B k) r := by
  simp only [if_pos hc]; exact h
theorem ev_neg {c : Prop} [Decidable c] {α : Type} {A B : Nat → Option α} {r : α} (hc : ¬ c) (h : Ev B r) : Ev (fun k => if c then A k else B k) r := by
  simp only [if_neg hc]; exact h
theorem wrap_id {n : Int} (h : -9223372036854775808 ≤ n ∧ n < 9223372036854775808) : wrap64 n = n := by unfold wrap64; omega
theorem rd_nat (l : List Int) (i : Nat) : rd l (i : Int) = l.getD i 0 := by simp [rd]
theorem getD_mem {l : List Int} {i : Nat} (h : i < l.length) : l.getD i 0 ∈ l := by
  rw [List.getD_eq_getElem?_getD, List.getElem?_eq_getElem h]; exact List.getElem_mem h
theorem mem_getD {l : List Int} {x : Int} (h : x ∈ l) : ∃ i, i < l.length ∧ l.getD i 0 = x := by
  obtain ⟨i, hi, rfl⟩ := List.getElem_of_mem h
  exact ⟨i, hi, by rw [List.getD_eq_getElem?_getD, List.getElem?_eq_getElem hi]; rfl⟩
theorem getD_set {l : List Int} {i j : Nat} {v : Int} (hi : i < l.length) : (l.set i v).getD j 0 = if j = i then v else l.getD j 0 := by
  rw [List.getD_eq_getElem?_getD, List.getElem?_set]
  by_cases h : i = j
  · subst h; rw [if_pos rfl, if_pos hi, if_pos rfl]; rfl
  · rw [if_neg h, if_neg (fun e => h e.symm), List.getD_eq_getElem?_getD]
theorem getD_append_lt {l : List Int} {v : Int} {j : Nat} (h : j < l.length) : (l ++ [v]).getD j 0 = l.getD j 0 := by
  rw [List.getD_eq_getElem?_getD, List.getElem?_append_left h, List.getD_eq_getElem?_getD]
theorem getD_append_eq {l : List Int} {v : Int} : (l ++ [v]).getD l.length 0 = v := by
  rw [List.getD_eq_getElem?_getD, List.getElem?_append_right (Nat.le_refl _)]; simp
theorem getD_replicate {n j : Nat} : (List.replicate n (0 : Int)).getD j 0 = 0 := by
  rw [List.getD_eq_getElem?_getD, List.getElem?_replicate]; split <;> rfl
theorem ext_getD {l m : List Int} (hl : l.length = m.length) (h : ∀ i, i < l.length → l.getD i 0 = m.getD i 0) : l = m := by
  refine List.ext_getElem hl fun i h1 h2 => ?_
  have := h i h1
  rw [List.getD_eq_getElem?_getD, List.getD_eq_getElem?_getD, List.getElem?_eq_getElem h1, List.getElem?_eq_getElem h2] at this
  exact this

theorem min_l0 (l : List Int) (hl : l.length < 4611686018427387904) : ∀ (d i : Nat) (m : Int), i + d = l.length → m ∈ l → (∀ j, j < i → m ≤ l.getD j 0) →
    ∃ m', Ev (fun k => slices_Min_int_int.l0 k l m i) m' ∧ m' ∈ l ∧ ∀ x ∈ l, m' ≤ x := by
  intro d
  induction d with
  | zero =>
    intro i m hi hm hj
    refine ⟨m, Ev.step (fun k => by rw [slices_Min_int_int.l0]) (ev_neg (by omega) (Ev.now _)), hm, fun x hx => ?_⟩
    obtain ⟨j, hjl, rfl⟩ := mem_getD hx
    exact hj j (by omega)
  | succ d ih =>
    intro i m hi hm hj
    obtain ⟨m', e, h1, h2⟩ := ih (i + 1) (mn m (l.getD i 0)) (by omega) (by
      unfold mn; split
      · exact getD_mem (by omega)
      · exact hm) (by
      intro j hj'
      unfold mn
      by_cases hji : j = i
      · subst hji; split <;> omega
      · have := hj j (by omega); split <;> omega)
    refine ⟨m', Ev.step (fun k => by rw [slices_Min_int_int.l0]) (ev_pos (by omega) (ev_pos (by omega) ?_)), h1, h2⟩
    rw [rd_nat, wrap_id (by omega)]
    exact e
theorem min_f (l : List Int) (hl : l.length < 4611686018427387904) (h0 : 0 < l.length) : ∃ m, Ev (fun k => slices_Min_int_int.f k l) m ∧ m ∈ l ∧ ∀ x ∈ l, m ≤ x := by
  obtain ⟨m, e, h1, h2⟩ := min_l0 l hl (l.length - 1) 1 (l.getD 0 0) (by omega) (getD_mem h0) (fun j hj => by rw [show j = 0 by omega]; exact Int.le_refl _)
  refine ⟨m, ?_, h1, h2⟩
  unfold slices_Min_int_int.f
  exact ev_neg (by omega) (ev_pos (by omega) e)
theorem max_l0 (l : List Int) (hl : l.length < 4611686018427387904) : ∀ (d i : Nat) (m : Int), i + d = l.length → m ∈ l → (∀ j, j < i → l.getD j 0 ≤ m) →
    ∃ m', Ev (fun k => slices_Max_int_int.l0 k l m i) m' ∧ m' ∈ l ∧ ∀ x ∈ l, x ≤ m' := by
  intro d
  induction d with
  | zero =>
    intro i m hi hm hj
    refine ⟨m, Ev.step (fun k => by rw [slices_Max_int_int.l0]) (ev_neg (by omega) (Ev.now _)), hm, fun x hx => ?_⟩
    obtain ⟨j, hjl, rfl⟩ := mem_getD hx
    exact hj j (by omega)
  | succ d ih =>
    intro i m hi hm hj
    obtain ⟨m', e, h1, h2⟩ := ih (i + 1) (mx m (l.getD i 0)) (by omega) (by
      unfold mx; split
      · exact getD_mem (by omega)
      · exact hm) (by
      intro j hj'
      unfold mx
      by_cases hji : j = i
      · subst hji; split <;> omega
      · have := hj j (by omega); split <;> omega)
    refine ⟨m', Ev.step (fun k => by rw [slices_Max_int_int.l0]) (ev_pos (by omega) (ev_pos (by omega) ?_)), h1, h2⟩
    rw [rd_nat, wrap_id (by omega)]
    exact e
theorem max_f (l : List Int) (hl : l.length < 4611686018427387904) (h0 : 0 < l.length) : ∃ m, Ev (fun k => slices_Max_int_int.f k l) m ∧ m ∈ l ∧ ∀ x ∈ l, x ≤ m := by
  obtain ⟨m, e, h1, h2⟩ := max_l0 l hl (l.length - 1) 1 (l.getD 0 0) (by omega) (getD_mem h0) (fun j hj => by rw [show j = 0 by omega]; exact Int.le_refl _)
  refine ⟨m, ?_, h1, h2⟩
  unfold slices_Max_int_int.f
  exact ev_neg (by omega) (ev_pos (by omega) e)

/-- A driver's share. -/
def sh (l : List Int) (i : Nat) : Int := l.getD i 0
/-- The total of the shares. -/
def tot (l : List Int) : Int := sm (sh l) l.length
/-- The error of shares. -/
def shE (l : List Int) : Int := if l.length > 8 then 3 else if l.length = 0 then 2 else if ∃ x ∈ l, x < 1 ∨ x > 20 then 2 else 0
structure Good (l : List Int) : Prop where
  len : l.length ≤ 8
  pos : 0 < l.length
  low : ∀ i, i < l.length → 1 ≤ sh l i
  high : ∀ i, i < l.length → sh l i ≤ 20
theorem sh_good {l : List Int} : shE l = 0 ↔ Good l := by
  unfold shE
  constructor
  · intro h
    split at h
    · cases h
    split at h
    · cases h
    split at h
    · cases h
    rename_i h1 h2 h3
    refine ⟨by omega, by omega, fun i hi => Int.not_lt.1 fun h => h3 ⟨_, getD_mem hi, .inl h⟩, fun i hi => Int.not_lt.1 fun h => h3 ⟨_, getD_mem hi, .inr h⟩⟩
  · intro ⟨h1, h2, h3, h4⟩
    rw [if_neg (by omega), if_neg (by omega), if_neg (by
      intro ⟨x, hx, h⟩
      obtain ⟨i, hi, rfl⟩ := mem_getD hx
      have := h3 i hi; have := h4 i hi; unfold sh at *; omega)]
theorem sum_small {l : List Int} (g : Good l) : ∀ n, n ≤ l.length → (n : Int) ≤ sm (sh l) n ∧ sm (sh l) n ≤ 20 * (n : Int) := by
  intro n
  induction n with
  | zero => intro _; exact ⟨Int.le_refl _, Int.le_refl _⟩
  | succ n ih =>
    intro hn
    have := ih (by omega)
    have := g.low n (by omega)
    have := g.high n (by omega)
    show _ ≤ sm (sh l) n + sh l n ∧ sm (sh l) n + sh l n ≤ _
    omega
theorem Good.tot_pos {l : List Int} (g : Good l) : (l.length : Int) ≤ tot l := (sum_small g _ (Nat.le_refl _)).1
theorem Good.tot_le {l : List Int} (g : Good l) : tot l ≤ 160 := by have := (sum_small g _ (Nat.le_refl _)).2; have := g.len; unfold tot; omega
theorem Good.sh_le {l : List Int} (g : Good l) {i : Nat} (hi : i < l.length) : sh l i ≤ tot l := sm_mem_le (f := sh l) (fun j hj => by have := g.low j hj; omega) hi

theorem total_l0 {l : List Int} (g : Good l) : ∀ (d i : Nat), i + d = l.length → Ev (fun k => turn_total_int.l0 k (sm (sh l) i) l l.length i) (tot l) := by
  intro d
  induction d with
  | zero =>
    intro i hi
    obtain rfl : i = l.length := by omega
    show Ev _ (sm (sh l) l.length)
    exact Ev.step (fun k => by rw [turn_total_int.l0]) (ev_neg (by omega) (Ev.now _))
  | succ d ih =>
    intro i hi
    have := ih (i + 1) (by omega)
    have s1 := sum_small g i (by omega)
    have h1 := g.low i (by omega)
    have h2 := g.high i (by omega)
    have := g.len
    refine Ev.step (fun k => by rw [turn_total_int.l0]) (ev_pos (by omega) (ev_pos (by omega) (ev_pos (by omega) ?_)))
    refine Ev.bind (Ev.now (rd l (i : Int))) ?_
    rw [rd_nat, wrap_id (n := (i : Int) + 1) (by omega), wrap_id (n := _ + _) (by unfold sh at *; omega)]
    exact ih (i + 1) (by omega)
theorem total_f {l : List Int} (g : Good l) : Ev (fun k => turn_total_int.f k l) (tot l) := by
  unfold turn_total_int.f
  exact total_l0 g l.length 0 (by omega)
theorem read_f (l : List Int) : Ev (fun k => turn_read.f k l) (if shE l = 0 then (l, tot l, 0) else ([], 0, shE l)) := by
  unfold turn_read.f
  by_cases h1 : l.length > 8
  · rw [show shE l = 3 from if_pos h1]
    exact ev_pos (by omega) (Ev.now _)
  refine ev_neg (by omega) ?_
  by_cases h2 : l.length = 0
  · rw [show shE l = 2 by unfold shE; rw [if_neg h1, if_pos h2]]
    exact ev_pos (by omega) (Ev.now _)
  refine ev_neg (by omega) ?_
  have bad : (∃ x ∈ l, x < 1 ∨ x > 20) → shE l = 2 := fun h => by unfold shE; rw [if_neg h1, if_neg h2, if_pos h]
  obtain ⟨m, e, hm, hm'⟩ := min_f l (by omega) (by omega)
  refine Ev.bind e ?_
  by_cases h3 : m < 1
  · rw [bad ⟨m, hm, .inl h3⟩]; exact ev_pos h3 (Ev.now _)
  refine ev_neg h3 ?_
  obtain ⟨m2, e2, hm2, hm2'⟩ := max_f l (by omega) (by omega)
  refine Ev.bind e2 ?_
  by_cases h4 : m2 > 20
  · rw [bad ⟨m2, hm2, .inr h4⟩]; exact ev_pos h4 (Ev.now _)
  have g : Good l := ⟨by omega, by omega, fun i hi => by have := hm' _ (getD_mem hi); unfold sh; omega, fun i hi => by have := hm2' _ (getD_mem hi); unfold sh; omega⟩
  rw [if_pos (sh_good.2 g)]
  exact ev_neg h4 (Ev.bind (total_f g) (Ev.now _))
theorem read_good {l : List Int} (g : Good l) : Ev (fun k => turn_read.f k l) (l, tot l, 0) := by
  have := read_f l; rwa [if_pos (sh_good.2 g)] at this
theorem read_bad {l : List Int} (g : shE l ≠ 0) : Ev (fun k => turn_read.f k l) ([], 0, shE l) := by
  have := read_f l; rwa [if_neg g] at this

theorem Shares_l0 {l : List Int} (h0 : 0 < l.length) (hl : l.length ≤ 8) : ∀ (d i : Nat), i + d = l.length → (∀ j, j < i → 1 ≤ sh l j ∧ sh l j ≤ 20) → (i : Int) ≤ sm (sh l) i ∧ sm (sh l) i ≤ 20 * (i : Int) →
    Ev (fun k => trishawref01_Shares.l0 k l (sm (sh l) i) i) (if shE l = 0 then (tot l, 0) else (0, shE l)) := by
  intro d
  induction d with
  | zero =>
    intro i hi hj hs
    obtain rfl : i = l.length := by omega
    rw [if_pos (sh_good.2 ⟨hl, h0, fun j hj' => (hj j hj').1, fun j hj' => (hj j hj').2⟩)]
    show Ev _ (sm (sh l) l.length, (0 : Int))
    exact Ev.step (fun k => by rw [trishawref01_Shares.l0]) (ev_neg (by omega) (Ev.now _))
  | succ d ih =>
    intro i hi hj hs
    have bad : (sh l i < 1 ∨ sh l i > 20) → shE l = 2 := by
      intro h
      unfold shE
      rw [if_neg (by omega), if_neg (by omega), if_pos ⟨_, getD_mem (show i < l.length by omega), h⟩]
    refine Ev.step (fun k => by rw [trishawref01_Shares.l0]) (ev_pos (by omega) (ev_pos (by omega) ?_))
    rw [rd_nat]
    by_cases h1 : sh l i < 1
    · rw [bad (.inl h1)]; exact ev_pos h1 (Ev.now _)
    · refine ev_neg h1 ?_
      by_cases h2 : sh l i > 20
      · rw [bad (.inr h2)]; exact ev_pos h2 (Ev.now _)
      · refine ev_neg h2 ?_
        have e : sm (sh l) (i + 1) = sm (sh l) i + sh l i := rfl
        have := ih (i + 1) (by omega) (fun j hj' => by
          by_cases hji : j = i
          · subst hji; omega
          · exact hj j (by omega)) (by omega)
        rw [wrap_id (n := (i : Int) + 1) (by omega), wrap_id (n := sm (sh l) i + l.getD i 0) (by unfold sh at *; omega)]
        exact this
theorem Shares_f (l : List Int) : Ev (fun k => trishawref01_Shares.f k l) (if shE l = 0 then (tot l, 0) else (0, shE l)) := by
  unfold trishawref01_Shares.f
  by_cases h1 : l.length > 8
  · rw [show shE l = 3 from if_pos h1]
    exact ev_pos (by omega) (Ev.now _)
  · refine ev_neg (by omega) ?_
    by_cases h2 : l.length = 0
    · rw [show shE l = 2 by unfold shE; rw [if_neg h1, if_pos h2]]
      exact ev_pos (by omega) (Ev.now _)
    · exact ev_neg (by omega) (Shares_l0 (by omega) (by omega) l.length 0 (by omega) (fun j hj => by omega) ⟨Int.le_refl _, Int.le_refl _⟩)
theorem Shares_good {l : List Int} (g : Good l) : Ev (fun k => trishawref01_Shares.f k l) (tot l, 0) := by
  have := Shares_f l; rwa [if_pos (sh_good.2 g)] at this
theorem Shares_bad {l : List Int} (g : shE l ≠ 0) : Ev (fun k => trishawref01_Shares.f k l) (0, shE l) := by
  have := Shares_f l; rwa [if_neg g] at this

theorem same_l0 (l : List Int) (hl : l.length < 4611686018427387904) : ∀ (d i : Nat), i + d = l.length → Ev (fun k => trishawlaw01_same.l0 k l l i) true := by
  intro d
  induction d with
  | zero => intro i hi; exact Ev.step (fun k => by rw [trishawlaw01_same.l0]) (ev_neg (by omega) (Ev.now _))
  | succ d ih =>
    intro i hi
    refine Ev.step (fun k => by rw [trishawlaw01_same.l0]) (ev_pos (by omega) (ev_pos (by omega) (ev_pos (by omega) (ev_pos rfl ?_))))
    rw [wrap_id (by omega)]
    exact ih (i + 1) (by omega)
/-- Two lists that are one list are the same. -/
theorem same_f (l : List Int) (hl : l.length < 4611686018427387904) : Ev (fun k => trishawlaw01_same.f k l l) true := by
  unfold trishawlaw01_same.f
  exact ev_pos rfl (same_l0 l hl l.length 0 (by omega))
theorem clone_f (l : List Int) (h : l.length < 17592186044416) : Ev (fun _ => slices_Clone_int_int.f l) l := by
  unfold slices_Clone_int_int.f
  exact ev_pos h (Ev.now _)
theorem few_f (l m : List Int) : trishawlaw01_few.f l m = some (decide (l.length ≤ 30 ∧ m.length ≤ 500)) := by
  unfold trishawlaw01_few.f
  by_cases h : (l.length : Int) ≤ 30
  · rw [if_pos h]; congr 1; apply decide_eq_decide.2; omega
  · rw [if_neg h]; congr 1; symm; apply decide_eq_false; omega
theorem mul_bd {a b A B : Int} (a0 : 0 ≤ a) (a1 : a ≤ A) (b0 : 0 ≤ b) (b1 : b ≤ B) : 0 ≤ a * b ∧ a * b ≤ A * B :=
  ⟨Int.mul_nonneg a0 b0, Int.le_trans (Int.mul_le_mul_of_nonneg_right a1 b0) (Int.mul_le_mul_of_nonneg_left b1 (by omega))⟩
end Go.Proofs.YtgobffgogmnmpaaDoor.Pure
