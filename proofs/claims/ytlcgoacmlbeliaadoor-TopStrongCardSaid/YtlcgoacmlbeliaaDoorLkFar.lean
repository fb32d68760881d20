/- What the distances of package oneway are, and that the signs are strong if every corner is reached from every one. Conditions: two to seven corners, at most 14 arcs, each arc joins two corners. -/
import Derived.Test.YtlcgoacmlbeliaaDoorLkParts
namespace Go.Proofs.YtlcgoacmlbeliaaDoor.Str
set_option linter.unusedVariables false
set_option linter.unusedSimpArgs false
open Go.RowKit Go.Proofs.YtlcgoacmlbeliaaDoorW.PrintWords Go.Proofs.YtlcgoacmlbeliaaDoorW.PrintLast Go.Proofs.YtlcgoacmlbeliaaDoorW.PrintMore P
def row (n : Nat) (f : Nat → Int) : List Int := (List.range n).map f
theorem row_length (n : Nat) (f : Nat → Int) : (row n f).length = n := by simp [row]
theorem rd_row {n j : Nat} {f : Nat → Int} (h : j < n) : rd (row n f) j = f j := by
  simp [rd, row, List.getD, h]
theorem range_set {α : Type} {n p : Nat} {f : Nat → α} {v : α} : ((List.range n).map f).set p v = (List.range n).map (fun i => if i = p then v else f i) := by
  apply List.ext_getElem
  · simp
  · intro i h1 h2
    simp only [List.getElem_set, List.getElem_map, List.getElem_range]
    by_cases h : p = i
    · rw [if_pos h, if_pos h.symm]
    · rw [if_neg h, if_neg (fun e => h e.symm)]
theorem holes : ∀ (d : Nat) (l : List Int), (∀ i : Nat, i ≤ d → (i : Int) ∈ l) → d + 1 ≤ l.length
  | 0, l, h => List.length_pos_of_mem (h 0 (by omega))
  | d + 1, l, h => by
    have hm := h (d + 1) (by omega)
    have := holes d (l.erase ((d + 1 : Nat) : Int)) (fun i hi => (List.mem_erase_of_ne (by omega)).2 (h i (by omega)))
    rw [List.length_erase_of_mem hm] at this
    have := List.length_pos_of_mem hm
    omega
/-- Distances before step s, the first j ways of the step done. -/
structure Inv (ws : List (Nat × Nat)) (R : Nat → Prop) (a n : Nat) (s : Nat) (j : Nat) (q : Nat → Int) : Prop where
  reach : ∀ v, v < n → 0 ≤ q v → R v
  low : ∀ v, v < n → -1 ≤ q v
  top : ∀ v, v < n → q v ≤ (s : Int) + 1
  start : 0 ≤ q a
  near : ∀ e ∈ ws, 0 ≤ q e.1 → q e.1 < (s : Int) → 0 ≤ q e.2
  now : ∀ e ∈ ws.take j, q e.1 = (s : Int) → 0 ≤ q e.2
  down : ∀ v, v < n → 0 < q v → ∃ w, w < n ∧ q w = q v - 1
theorem Inv.put {ws : List (Nat × Nat)} {R : Nat → Prop} {a n s j : Nat} {q : Nat → Int} (hR : ∀ e ∈ ws, R e.1 → R e.2) (hw : ∀ e ∈ ws, e.1 < n ∧ e.2 < n) (h : Inv ws R a n s j q) (hj : j < ws.length) (h1 : q ws[j].1 = s) (h2 : q ws[j].2 < 0) :
    Inv ws R a n s (j + 1) (fun c => if c = ws[j].2 then (s : Int) + 1 else q c) := by
  have he := hw _ (List.getElem_mem hj)
  have old : ∀ v, 0 ≤ q v → ¬ v = ws[j].2 := fun v hv e => by rw [e] at hv; omega
  refine ⟨fun v hv h0 => ?_, fun v hv => ?_, fun v hv => ?_, ?_, fun e hm h3 h4 => ?_, fun e hm h3 => ?_, fun v hv h3 => ?_⟩
  · by_cases e : v = ws[j].2
    · rw [e]; exact hR _ (List.getElem_mem hj) (h.reach _ he.1 (by omega))
    · simp only [if_neg e] at h0; exact h.reach v hv h0
  · have := h.low v hv
    split <;> omega
  · have := h.top v hv
    split <;> omega
  · have := h.start
    split <;> omega
  · split at h4
    · omega
    · next hne =>
      rw [if_neg hne] at h3
      have := h.near e hm h3 h4
      split <;> omega
  · split
    · omega
    · next hne2 =>
      split at h3
      · omega
      · rw [← List.take_append_getElem hj] at hm
        rcases List.mem_append.1 hm with hm | hm
        · exact h.now e hm h3
        · rw [List.mem_singleton.1 hm] at hne2; exact absurd rfl hne2
  · split at h3
    · next e =>
      refine ⟨ws[j].1, he.1, ?_⟩
      rw [if_neg (old _ (by omega)), if_pos e]; omega
    · next e =>
      obtain ⟨w, hw1, hw2⟩ := h.down v hv h3
      refine ⟨w, hw1, ?_⟩
      rw [if_neg (old w (by omega)), if_neg e]; exact hw2
theorem Inv.pass {ws : List (Nat × Nat)} {R : Nat → Prop} {a n s j : Nat} {q : Nat → Int} (h : Inv ws R a n s j q) (hj : j < ws.length) (h1 : q ws[j].1 = s → 0 ≤ q ws[j].2) : Inv ws R a n s (j + 1) q := by
  refine ⟨h.reach, h.low, h.top, h.start, h.near, fun e hm h3 => ?_, h.down⟩
  rw [← List.take_append_getElem hj] at hm
  rcases List.mem_append.1 hm with hm | hm
  · exact h.now e hm h3
  · rw [List.mem_singleton.1 hm] at h3 ⊢; exact h1 h3
theorem Inv.next {ws : List (Nat × Nat)} {R : Nat → Prop} {a n s : Nat} {q : Nat → Int} (h : Inv ws R a n s ws.length q) : Inv ws R a n (s + 1) 0 q := by
  refine ⟨h.reach, h.low, fun v hv => ?_, h.start, fun e hm h3 h4 => ?_, fun e hm => by simp at hm, h.down⟩
  · have := h.top v hv; omega
  · by_cases hs : q e.1 = (s : Int)
    · exact h.now e (by rw [List.take_length]; exact hm) hs
    · exact h.near e hm h3 (by omega)
theorem Inv.done {ws : List (Nat × Nat)} {R : Nat → Prop} {a n : Nat} {q : Nat → Int} (hw : ∀ e ∈ ws, e.1 < n ∧ e.2 < n) (h : Inv ws R a n n 0 q) : ∀ e ∈ ws, 0 ≤ q e.1 → 0 ≤ q e.2 := by
  have low : ∀ (d v : Nat), v < n → q v = (d : Int) → ∀ i : Nat, i ≤ d → (i : Int) ∈ row n q := by
    intro d
    induction d with
    | zero =>
      intro v hv e i hi
      obtain rfl : i = 0 := by omega
      exact List.mem_map.2 ⟨v, List.mem_range.2 hv, e⟩
    | succ d ih =>
      intro v hv e i hi
      by_cases hid : i = d + 1
      · subst hid; exact List.mem_map.2 ⟨v, List.mem_range.2 hv, e⟩
      · obtain ⟨w, hw1, hw2⟩ := h.down v hv (by omega)
        exact ih w hw1 (by omega) i (by omega)
  intro e he h0
  refine h.near e he h0 ?_
  have := holes (q e.1).toNat (row n q) (low (q e.1).toNat e.1 (hw e he).1 (by omega))
  rw [row_length] at this
  omega
theorem far_is {m : Nat} (hm : m ≤ 6) {ws : List (Nat × Nat)} (hw : ∀ e ∈ ws, e.1 < m + 1 ∧ e.2 < m + 1) (hl : ws.length ≤ 28) {R : Nat → Prop} (hR : ∀ e ∈ ws, R e.1 → R e.2) {a : Nat} (ha : a ≤ m) (hRa : R a) :
    ∃ q : Nat → Int, Ev (fun k => oneway_arcs_far.f k (ws.map s39) ((m + 1 : Nat) : Int) a) (row (m + 1) q) ∧ (∀ v, v ≤ m → 0 ≤ q v → R v) ∧ (∀ v, v ≤ m → -1 ≤ q v) ∧ 0 ≤ q a ∧ ∀ e ∈ ws, 0 ≤ q e.1 → 0 ≤ q e.2 := by
  have steps : ∀ d s (q : Nat → Int), s + d = m + 1 → Inv ws R a (m + 1) s 0 q → ∃ q' : Nat → Int, Inv ws R a (m + 1) (m + 1) 0 q' ∧ Ev (fun k => oneway_arcs_far.l1 k (ws.map s39) (row (m + 1) q) ((m + 1 : Nat) : Int) (s : Int)) (row (m + 1) q') := by
    intro d
    induction d with
    | zero =>
      intro s q hs hq
      obtain rfl : s = m + 1 := by omega
      refine ⟨q, hq, (Ev.const _).succ (fun k => ?_)⟩
      simp only [oneway_arcs_far.l1]
      rw [if_neg (by omega)]
    | succ d ih =>
      intro s q hs hq
      have ways : ∀ d' j (q : Nat → Int), j + d' = ws.length → Inv ws R a (m + 1) s j q → ∃ q' : Nat → Int, Inv ws R a (m + 1) (m + 1) 0 q' ∧ Ev (fun k => oneway_arcs_far.l2 k (ws.map s39) (row (m + 1) q) (s : Int) ((m + 1 : Nat) : Int) (s : Int) (ws.map s39) (ws.length : Int) (j : Int)) (row (m + 1) q') := by
        intro d'
        induction d' with
        | zero =>
          intro j q hj hq
          obtain rfl : j = ws.length := by omega
          obtain ⟨q', h1, h2⟩ := ih (s + 1) q (by omega) hq.next
          refine ⟨q', h1, h2.succ (fun k => ?_)⟩
          simp only [oneway_arcs_far.l2]
          rw [if_neg (by omega), succ_is (by omega)]
        | succ d' ihw =>
          intro j q hj hq
          have he := hw ws[j] (List.getElem_mem (by omega))
          by_cases c1 : q ws[j].1 = s
          · by_cases c2 : q ws[j].2 < 0
            · obtain ⟨q', h1, h2⟩ := ihw (j + 1) _ (by omega) (hq.put hR hw (by omega) c1 c2)
              refine ⟨q', h1, h2.succ (fun k => ?_)⟩
              simp only [oneway_arcs_far.l2]
              rw [if_pos (by omega), if_pos (by omega), if_pos (by rw [List.length_map]; omega), rd39_0 (by omega), rd39_1 (by omega), if_pos (by omega), if_pos (by rw [row_length]; omega), rd_row he.1, if_pos c1, if_pos (by omega), if_pos (by rw [row_length]; omega), rd_row he.2, if_pos c2, succ_is (by omega), succ_is (by omega), Int.toNat_natCast]
              congr 1
              unfold row; rw [range_set]
              exact List.map_congr_left (fun c _ => by split <;> omega)
            · obtain ⟨q', h1, h2⟩ := ihw (j + 1) _ (by omega) (hq.pass (by omega) (fun _ => by omega))
              refine ⟨q', h1, h2.succ (fun k => ?_)⟩
              simp only [oneway_arcs_far.l2]
              rw [if_pos (by omega), if_pos (by omega), if_pos (by rw [List.length_map]; omega), rd39_0 (by omega), rd39_1 (by omega), if_pos (by omega), if_pos (by rw [row_length]; omega), rd_row he.1, if_pos c1, if_pos (by omega), if_pos (by rw [row_length]; omega), rd_row he.2, if_neg c2, succ_is (j := j) (by omega)]
          · obtain ⟨q', h1, h2⟩ := ihw (j + 1) _ (by omega) (hq.pass (by omega) (fun h => absurd h c1))
            refine ⟨q', h1, h2.succ (fun k => ?_)⟩
            simp only [oneway_arcs_far.l2]
            rw [if_pos (by omega), if_pos (by omega), if_pos (by rw [List.length_map]; omega), rd39_0 (by omega), if_pos (by omega), if_pos (by rw [row_length]; omega), rd_row he.1, if_neg c1, succ_is (j := j) (by omega)]
      obtain ⟨q', h1, h2⟩ := ways ws.length 0 q (by omega) hq
      refine ⟨q', h1, h2.succ (fun k => ?_)⟩
      simp only [oneway_arcs_far.l1]
      rw [if_pos (by omega), List.length_map]; rfl
  have h0 : Inv ws R a (m + 1) 0 0 (fun v => if v = a then 0 else -1) := by
    refine ⟨fun v _ h => ?_, fun v _ => ?_, fun v _ => ?_, by simp, fun e _ h1 h2 => by omega, fun e hm => by simp at hm, fun v _ h => ?_⟩
    · split at h
      · next e => rw [e]; exact hRa
      · omega
    · show _ ≤ (if _ then _ else _)
      split <;> omega
    · show (if _ then _ else _) ≤ _
      split <;> omega
    · split at h <;> omega
  obtain ⟨q', h1, h2⟩ := steps (m + 1) 0 _ (by omega) h0
  refine ⟨q', ?_, fun v hv h => h1.reach v (by omega) h, fun v hv => h1.low v (by omega), h1.start, h1.done hw⟩
  have fill : ∀ d j, j + d = m + 1 → Ev (fun k => oneway_arcs_far.l0 k (ws.map s39) ((m + 1 : Nat) : Int) a (row (m + 1) (fun v => if v < j then -1 else 0)) ((m + 1 : Nat) : Int) j) (row (m + 1) q') := by
    intro d
    induction d with
    | zero =>
      intro j hj
      obtain rfl : j = m + 1 := by omega
      refine h2.succ (fun k => ?_)
      simp only [oneway_arcs_far.l0]
      rw [if_neg (by omega), if_pos (by omega), if_pos (by rw [row_length]; omega), Int.toNat_natCast]
      congr 1
      unfold row; rw [range_set]
      exact List.map_congr_left (fun c hc => by have := List.mem_range.1 hc; (repeat' split) <;> omega)
    | succ d ih =>
      intro j hj
      refine (ih (j + 1) (by omega)).succ (fun k => ?_)
      simp only [oneway_arcs_far.l0]
      rw [if_pos (by omega), if_pos (by omega), if_pos (by rw [row_length]; omega), Int.toNat_natCast, succ_is (by omega)]
      congr 1
      unfold row; rw [range_set]
      exact List.map_congr_left (fun c hc => by (repeat' split) <;> omega)
  refine (fill (m + 1) 0 (by omega)).eq (fun k => ?_)
  simp only [oneway_arcs_far.f]
  rw [if_pos (by omega), if_pos (by omega), Option.bind_some, List.length_replicate, Int.toNat_natCast]
  congr 1
  simp [row, List.map_const']

theorem index_is {l : List Int} (hl : l.length ≤ 100) (a : Int) : ∃ i : Int, Ev (fun k => slices_Index_int_int.f k l a) i ∧ (0 ≤ i ↔ a ∈ l) := by
  have go : ∀ (d j : Nat), j + d = l.length → ∃ i : Int, Ev (fun k => slices_Index_int_int.l0 k l a (l.length : Int) (j : Int)) i ∧ (0 ≤ i ↔ a ∈ l.drop j) := by
    intro d
    induction d with
    | zero =>
      intro j hj
      refine ⟨-1, (Ev.const _).succ (fun k => ?_), ?_⟩
      · simp only [slices_Index_int_int.l0]
        rw [if_neg (by omega)]
      · rw [List.drop_eq_nil_of_le (by omega)]; simp
    | succ d ih =>
      intro j hj
      have hjl : j < l.length := by omega
      have e : rd l (j : Int) = l[j] := by
        unfold rd
        rw [Int.toNat_natCast, List.getD_eq_getElem?_getD, List.getElem?_eq_getElem hjl]; rfl
      rw [List.drop_eq_getElem_cons hjl]
      by_cases c : a = l[j]
      · refine ⟨(j : Int), (Ev.const _).succ (fun k => ?_), ?_⟩
        · simp only [slices_Index_int_int.l0]
          rw [if_pos (by omega), if_pos (by omega), if_pos (by omega), e, if_pos c]
        · exact iff_of_true (by omega) (by rw [← c]; exact List.mem_cons_self)
      · obtain ⟨i, h1, h2⟩ := ih (j + 1) (by omega)
        refine ⟨i, h1.succ (fun k => ?_), ?_⟩
        · simp only [slices_Index_int_int.l0]
          rw [if_pos (by omega), if_pos (by omega), if_pos (by omega), e, if_neg c, succ_is (by omega)]
        · rw [h2, List.mem_cons]; exact ⟨.inr, fun h => h.resolve_left c⟩
  obtain ⟨i, h1, h2⟩ := go l.length 0 (by omega)
  exact ⟨i, h1.eq (fun k => rfl), by simpa using h2⟩
theorem contains_is {l : List Int} (hl : l.length ≤ 100) (a : Int) : Ev (fun k => slices_Contains_int_int.f k l a) (decide (a ∈ l)) := by
  obtain ⟨i, h1, h2⟩ := index_is hl a
  refine (h1.bind (f := fun _ t => some (decide (t ≥ 0))) ((Ev.const _).eq (fun _ => ?_))).eq (fun k => rfl)
  congr 1
  exact decide_eq_decide.2 h2
theorem max_ev {l : List Int} (h0 : 1 ≤ l.length) (hl : l.length ≤ 100) : ∃ x : Int, Ev (fun k => slices_Max_int_int.f k l) x := by
  have go : ∀ (d j : Nat) (x : Int), j + d = l.length → ∃ y : Int, Ev (fun k => slices_Max_int_int.l0 k l x (j : Int)) y := by
    intro d
    induction d with
    | zero =>
      intro j x hj
      refine ⟨x, (Ev.const _).succ (fun k => ?_)⟩
      simp only [slices_Max_int_int.l0]
      rw [if_neg (by omega)]
    | succ d ih =>
      intro j x hj
      obtain ⟨y, h⟩ := ih (j + 1) (mx x (rd l (j : Int))) (by omega)
      refine ⟨y, h.succ (fun k => ?_)⟩
      simp only [slices_Max_int_int.l0]
      rw [if_pos (by omega), if_pos (by omega), succ_is (by omega)]
  obtain ⟨y, h⟩ := go (l.length - 1) 1 (rd l 0) (by omega)
  refine ⟨y, h.eq (fun k => ?_)⟩
  simp only [slices_Max_int_int.f]
  rw [if_neg (by omega), if_pos (by omega)]; rfl
theorem strong_is {m : Nat} (hm : m ≤ 6) {ws : List (Nat × Nat)} (hw : Fair (m + 1) ws) (hl : ws.length ≤ 14) :
    ∃ s : Bool, (s = true ↔ All ws (m + 1)) ∧ Ev (fun k => oneway_arcs_strong.f k (ws.map s39) ((m + 1 : Nat) : Int)) s := by
  have go : ∀ (d c : Nat) (x : Int), c + d = m + 1 → 0 ≤ x → ∃ y : Int, (0 ≤ y ↔ ∀ u, c ≤ u → u < m + 1 → ∀ v, v < m + 1 → Rc ws u v) ∧ Ev (fun k => oneway_arcs_width.l0 k (ws.map s39) ((m + 1 : Nat) : Int) x ((m + 1 : Nat) : Int) (c : Int)) y := by
    intro d
    induction d with
    | zero =>
      intro c x hc hx
      refine ⟨x, ⟨fun _ u h1 h2 => by omega, fun _ => hx⟩, (Ev.const _).succ (fun k => ?_)⟩
      simp only [oneway_arcs_width.l0]
      rw [if_neg (by omega)]
    | succ d ih =>
      intro c x hc hx
      obtain ⟨q, h1, h2, hlow, h3, h4⟩ := far_is (m := m) hm (ws := ws) (fun e h => hw.good e h) (by omega) (R := fun v => Rc ws c v) (fun e h hx => .step (v := e.1) h hx) (a := c) (by omega) .refl
      have hq : ∀ v, v ≤ m → (0 ≤ q v ↔ Rc ws c v) := by
        intro v hv
        refine ⟨h2 v hv, fun h => ?_⟩
        have : ∀ v, Rc ws c v → 0 ≤ q v := by
          intro v hv
          induction hv with
          | refl => exact h3
          | @step v x hx _ ih => exact h4 _ hx ih
        exact this v h
      have hcont : (-1 : Int) ∈ row (m + 1) q ↔ ¬ ∀ v, v < m + 1 → Rc ws c v := by
        unfold row
        rw [List.mem_map]
        constructor
        · rintro ⟨v, hv, e⟩ h
          have := (hq v (by have := List.mem_range.1 hv; omega)).2 (h v (List.mem_range.1 hv))
          omega
        · intro h
          refine Classical.byContradiction (fun hno => h (fun v hv => ?_))
          refine Classical.byContradiction (fun hr => hno ⟨v, List.mem_range.2 hv, ?_⟩)
          have h5 := hlow v (by omega)
          have h6 : ¬ 0 ≤ q v := fun h => hr ((hq v (by omega)).1 h)
          omega
      have hC := contains_is (l := row (m + 1) q) (by rw [row_length]; omega) (-1)
      by_cases hin : (-1 : Int) ∈ row (m + 1) q
      · rw [decide_eq_true hin] at hC
        refine ⟨-1, ⟨fun h => by omega, fun h => absurd (fun v hv => h c (Nat.le_refl _) (by omega) v hv) (hcont.1 hin)⟩, ?_⟩
        refine (h1.bind (f := fun k t256 => ((slices_Contains_int_int.f k t256 (-1)).bind fun t259 => (if t259 = true then (some (-1)) else ((slices_Max_int_int.f k t256).bind fun t260 => (oneway_arcs_width.l0 k (ws.map s39) ((m + 1 : Nat) : Int) (mx x t260) ((m + 1 : Nat) : Int) (wrap64 ((c : Int) + 1))))))) (hC.bind (f := fun k t259 => (if t259 = true then (some (-1)) else ((slices_Max_int_int.f k (row (m + 1) q)).bind fun t260 => (oneway_arcs_width.l0 k (ws.map s39) ((m + 1 : Nat) : Int) (mx x t260) ((m + 1 : Nat) : Int) (wrap64 ((c : Int) + 1)))))) ((Ev.const (-1)).eq (fun k => if_pos rfl)))).succ (fun k => ?_)
        simp only [oneway_arcs_width.l0]
        rw [if_pos (by omega)]
      · rw [decide_eq_false hin] at hC
        have hall : ∀ v, v < m + 1 → Rc ws c v := Classical.byContradiction (fun h => hin (hcont.2 h))
        obtain ⟨t, hM⟩ := max_ev (l := row (m + 1) q) (by rw [row_length]; omega) (by rw [row_length]; omega)
        obtain ⟨y, hy, hE⟩ := ih (c + 1) (mx x t) (by omega) (by unfold mx; split <;> omega)
        refine ⟨y, ?_, ?_⟩
        · rw [hy]
          constructor
          · intro h u hu1 hu2
            rcases Nat.lt_or_ge c u with h5 | h5
            · exact h u (by omega) hu2
            · obtain rfl : u = c := by omega
              exact hall
          · exact fun h u hu1 hu2 => h u (by omega) hu2
        · refine (h1.bind (f := fun k t256 => ((slices_Contains_int_int.f k t256 (-1)).bind fun t259 => (if t259 = true then (some (-1)) else ((slices_Max_int_int.f k t256).bind fun t260 => (oneway_arcs_width.l0 k (ws.map s39) ((m + 1 : Nat) : Int) (mx x t260) ((m + 1 : Nat) : Int) (wrap64 ((c : Int) + 1))))))) (hC.bind (f := fun k t259 => (if t259 = true then (some (-1)) else ((slices_Max_int_int.f k (row (m + 1) q)).bind fun t260 => (oneway_arcs_width.l0 k (ws.map s39) ((m + 1 : Nat) : Int) (mx x t260) ((m + 1 : Nat) : Int) (wrap64 ((c : Int) + 1)))))) ((hM.bind (f := fun k t260 => (oneway_arcs_width.l0 k (ws.map s39) ((m + 1 : Nat) : Int) (mx x t260) ((m + 1 : Nat) : Int) (wrap64 ((c : Int) + 1)))) (hE.eq (fun k => by rw [succ_is (by omega)]))).eq (fun k => if_neg (by decide))))).succ (fun k => ?_)
          simp only [oneway_arcs_width.l0]
          rw [if_pos (by omega)]
  obtain ⟨y, hy, hE⟩ := go (m + 1) 0 0 (by omega) (Int.le_refl _)
  refine ⟨decide (y ≥ 0), ?_, ?_⟩
  · rw [decide_eq_true_eq, ge_iff_le, hy]
    exact ⟨fun h u v hu hv => h u (Nat.zero_le _) hu v hv, fun h u _ hu v hv => h u v hu hv⟩
  · have hW : Ev (fun k => oneway_arcs_width.f k (ws.map s39) ((m + 1 : Nat) : Int)) y := hE.eq (fun k => rfl)
    exact (hW.bind (f := fun _ t => some (decide (t ≥ 0))) (Ev.const _)).eq (fun k => rfl)
end Go.Proofs.YtlcgoacmlbeliaaDoor.Str
