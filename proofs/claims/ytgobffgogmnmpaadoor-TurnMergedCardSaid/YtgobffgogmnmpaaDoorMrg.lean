/- What Merged answers, in the program and in the document. Conditions: none but sizes. -/
import Derived.Test.YtgobffgogmnmpaaDoorPx32
import Derived.Test.YtgobffgogmnmpaaDoorDays
namespace Go.Proofs.YtgobffgogmnmpaaDoor.Pure
open Go.RowKit Go.Proofs.YtgobffgogmnmpaaDoor.P Go.Proofs.YtgobffgogmnmpaaDoorW.PrintWords Go.Proofs.YtgobffgogmnmpaaDoorW.PrintLast Go.Proofs.YtgobffgogmnmpaaDoorW.PrintMore

/-- A day behind the merge. -/
def mday (a b d : Int) : Int := if d = b then a else if d > b then d - 1 else d
def mdays (days : List Int) (a b : Int) : List Int := days.map (mday a b)
/-- The error of a merge. -/
def mrE (days : List Int) (a b : Int) : Int := if daE days 8 = 0 then (if a < 0 ∨ a ≥ b ∨ b ≥ 8 then 2 else 0) else daE days 8
theorem index_l0 (days : List Int) (hd : days.length ≤ 400) : ∀ (d i : Nat), i + d = days.length → (∀ j, j < i → 0 ≤ days.getD j 0 ∧ days.getD j 0 < 8) →
    ∃ r, Ev (fun k => slices_IndexFunc_int_int.l0 k days days.length i) r ∧ (r ≥ 0 ↔ daE days 8 = 2) := by
  intro d
  induction d with
  | zero =>
    intro i hi hj
    refine ⟨-1, Ev.step (fun k => by rw [slices_IndexFunc_int_int.l0]) (ev_neg (by omega) (Ev.now _)), ⟨fun h => by omega, fun h => ?_⟩⟩
    rw [show daE days 8 = 0 from (da_ok (n := 8)).2 ⟨hd, fun t ht => hj t (by omega)⟩] at h
    cases h
  | succ d ih =>
    intro i hi hj
    by_cases hb : days.getD i 0 < 0 ∨ days.getD i 0 ≥ 8
    · refine ⟨i, Ev.step (fun k => by rw [slices_IndexFunc_int_int.l0]) (ev_pos (by omega) (ev_pos (by omega) (ev_pos (by omega) ?_))), ⟨fun _ => ?_, fun _ => by omega⟩⟩
      · rw [rd_nat]
        refine Ev.bind (a := true) ?_ (ev_pos rfl (Ev.now _))
        unfold turn_Merged_1.f
        by_cases h : days.getD i 0 < 0
        · exact ev_pos h (Ev.now _)
        · refine ev_neg h ?_
          rw [decide_eq_true (show days.getD i 0 ≥ 8 by omega)]
          exact Ev.now _
      · unfold daE
        rw [if_neg (by omega), if_pos ⟨_, getD_mem (show i < days.length by omega), hb⟩]
    · obtain ⟨r, e, hr⟩ := ih (i + 1) (by omega) (fun j hj' => by
        by_cases c : j = i
        · subst c; omega
        · exact hj j (by omega))
      refine ⟨r, Ev.step (fun k => by rw [slices_IndexFunc_int_int.l0]) (ev_pos (by omega) (ev_pos (by omega) (ev_pos (by omega) ?_))), hr⟩
      rw [rd_nat, wrap_id (n := (i : Int) + 1) (by omega)]
      refine Ev.bind (a := false) ?_ (ev_neg (by decide) e)
      unfold turn_Merged_1.f
      refine ev_neg (by omega) ?_
      rw [decide_eq_false (show ¬ days.getD i 0 ≥ 8 by omega)]
      exact Ev.now _
theorem contains_f (days : List Int) (hd : days.length ≤ 400) : Ev (fun k => slices_ContainsFunc_int_int.f k days) (decide (daE days 8 = 2)) := by
  obtain ⟨r, e, hr⟩ := index_l0 days hd days.length 0 (by omega) (fun j hj => by omega)
  unfold slices_ContainsFunc_int_int.f slices_IndexFunc_int_int.f
  rw [show decide (daE days 8 = 2) = decide (r ≥ 0) from decide_eq_decide.2 hr.symm]
  exact Ev.bind e (Ev.now _)
theorem take_snoc {days : List Int} {i : Nat} (h : i < days.length) (f : Int → Int) : (days.take i).map f ++ [f (days.getD i 0)] = (days.take (i + 1)).map f := by
  rw [List.take_succ_eq_append_getElem h, List.map_append, List.getD_eq_getElem?_getD, List.getElem?_eq_getElem h]; rfl
theorem Merged_l0 {days : List Int} {a b : Int} (hd : days.length ≤ 400) (hD : Days 8 days) : ∀ (d i : Nat), i + d = days.length →
    Ev (fun k => turn_Merged.l0 k a b ((days.take i).map (mday a b)) days days.length i) (mdays days a b, 0) := by
  intro d
  induction d with
  | zero =>
    intro i hi
    obtain rfl : i = days.length := by omega
    rw [List.take_length]
    show Ev _ (days.map (mday a b), (0 : Int))
    exact Ev.step (fun k => by rw [turn_Merged.l0]) (ev_neg (by omega) (Ev.now _))
  | succ d ih =>
    intro i hi
    have h := ih (i + 1) (by omega)
    have hx := hD i (by omega)
    have hl : ((days.take i).map (mday a b)).length < 17592186044416 := by rw [List.length_map, List.length_take]; omega
    rw [← take_snoc (by omega)] at h
    refine Ev.step (fun k => by rw [turn_Merged.l0]) (ev_pos (by omega) (ev_pos (by omega) (ev_pos (by omega) ?_)))
    rw [rd_nat, wrap_id (n := (i : Int) + 1) (by omega), wrap_id (n := days.getD i 0 - 1) (by omega)]
    unfold mday at h ⊢
    by_cases c : days.getD i 0 = b
    · rw [if_pos c] at h
      exact ev_pos c (ev_pos hl h)
    · rw [if_neg c] at h
      refine ev_neg c ?_
      by_cases c' : days.getD i 0 > b
      · rw [if_pos c'] at h
        exact ev_pos c' (ev_pos hl h)
      · rw [if_neg c'] at h
        exact ev_neg c' (ev_pos hl h)
theorem Merged_f (days : List Int) (a b : Int) : Ev (fun k => turn_Merged.f k days a b) (if mrE days a b = 0 then (mdays days a b, 0) else ([], mrE days a b)) := by
  unfold turn_Merged.f
  by_cases h1 : days.length > 400
  · have e : daE days 8 = 3 := if_pos h1
    rw [show mrE days a b = 3 by unfold mrE; rw [e]; rfl]
    exact ev_pos (by omega) (Ev.now _)
  · refine ev_neg (by omega) (Ev.bind (contains_f days (by omega)) ?_)
    by_cases h2 : daE days 8 = 2
    · rw [show mrE days a b = 2 by unfold mrE; rw [h2]; rfl]
      exact ev_pos (decide_eq_true h2) (Ev.now _)
    · have h0 : daE days 8 = 0 := by
        rcases da_cases days 8 with h | h | h
        · exact h
        · exact absurd h h2
        · unfold daE at h; rw [if_neg h1] at h; split at h <;> cases h
      refine ev_neg (by simpa using h2) ?_
      have hm : mrE days a b = if a < 0 ∨ a ≥ b ∨ b ≥ 8 then 2 else 0 := by unfold mrE; rw [if_pos h0]
      by_cases c1 : a < 0
      · have e2 : mrE days a b = 2 := by rw [hm, if_pos (.inl c1)]
        rw [e2]; exact ev_pos c1 (Ev.now _)
      refine ev_neg c1 ?_
      by_cases c2 : a ≥ b
      · have e2 : mrE days a b = 2 := by rw [hm, if_pos (.inr (.inl c2))]
        rw [e2]; exact ev_pos c2 (Ev.now _)
      refine ev_neg c2 ?_
      by_cases c3 : b ≥ 8
      · have e2 : mrE days a b = 2 := by rw [hm, if_pos (.inr (.inr c3))]
        rw [e2]; exact ev_pos c3 (Ev.now _)
      have e0 : mrE days a b = 0 := by rw [hm, if_neg (by omega)]
      rw [e0, if_pos rfl]
      exact ev_neg c3 (Merged_l0 (by omega) ((da_ok (n := 8)).1 h0).2 days.length 0 (by omega))
theorem RefMerged_l0 {days : List Int} {a b : Int} (hd : days.length ≤ 400) (hD : Days 8 days) : ∀ (d i : Nat), i + d = days.length →
    Ev (fun k => trishawref01_Merged.l0 k days a b ((days.take i).map (mday a b)) i) (mdays days a b, 0) := by
  intro d
  induction d with
  | zero =>
    intro i hi
    obtain rfl : i = days.length := by omega
    rw [List.take_length]
    show Ev _ (days.map (mday a b), (0 : Int))
    exact Ev.step (fun k => by rw [trishawref01_Merged.l0]) (ev_neg (by omega) (Ev.now _))
  | succ d ih =>
    intro i hi
    have h := ih (i + 1) (by omega)
    have hx := hD i (by omega)
    have hl : ((days.take i).map (mday a b)).length < 17592186044416 := by rw [List.length_map, List.length_take]; omega
    rw [← take_snoc (by omega)] at h
    refine Ev.step (fun k => by rw [trishawref01_Merged.l0]) (ev_pos (by omega) (ev_pos (by omega) ?_))
    rw [rd_nat, wrap_id (n := (i : Int) + 1) (by omega), wrap_id (n := days.getD i 0 - 1) (by omega)]
    unfold mday at h ⊢
    by_cases c : days.getD i 0 = b
    · rw [if_pos c] at h
      exact ev_pos c (ev_pos hl h)
    · rw [if_neg c] at h
      refine ev_neg c ?_
      by_cases c' : days.getD i 0 > b
      · rw [if_pos c'] at h
        exact ev_pos c' (ev_pos hl h)
      · rw [if_neg c'] at h
        exact ev_neg c' (ev_pos hl h)
theorem RefMerged_f (days : List Int) (a b : Int) : Ev (fun k => trishawref01_Merged.f k days a b) (if mrE days a b = 0 then (mdays days a b, 0) else ([], mrE days a b)) := by
  unfold trishawref01_Merged.f
  refine Ev.bind (Days_f days 8) ?_
  by_cases h0 : daE days 8 = 0
  · refine ev_pos h0 ?_
    obtain ⟨h1, hD⟩ := (da_ok (n := 8)).1 h0
    have hm : mrE days a b = if a < 0 ∨ a ≥ b ∨ b ≥ 8 then 2 else 0 := by unfold mrE; rw [if_pos h0]
    have bad : Ev (fun k => trishawref01_Merged.j0 k days a b true) ([], 2) := Ev.step (fun k => by rw [trishawref01_Merged.j0]) (ev_pos rfl (Ev.now _))
    by_cases c1 : a < 0
    · have e2 : mrE days a b = 2 := by rw [hm, if_pos (.inl c1)]
      rw [e2]; exact ev_pos c1 bad
    refine ev_neg c1 ?_
    by_cases c2 : a ≥ b
    · have e2 : mrE days a b = 2 := by rw [hm, if_pos (.inr (.inl c2))]
      rw [e2]; exact ev_pos c2 bad
    refine ev_neg c2 ?_
    by_cases c3 : b ≥ 8
    · have e2 : mrE days a b = 2 := by rw [hm, if_pos (.inr (.inr c3))]
      rw [e2, decide_eq_true c3]; exact bad
    have e0 : mrE days a b = 0 := by rw [hm, if_neg (by omega)]
    rw [e0, if_pos rfl, decide_eq_false c3]
    refine Ev.step (fun k => by rw [trishawref01_Merged.j0]) ?_
    exact ev_neg Bool.false_ne_true (RefMerged_l0 h1 hD days.length 0 (by omega))
  · rw [show mrE days a b = daE days 8 by unfold mrE; rw [if_neg h0], if_neg h0]
    exact ev_neg h0 (Ev.now _)
end Go.Proofs.YtgobffgogmnmpaaDoor.Pure
