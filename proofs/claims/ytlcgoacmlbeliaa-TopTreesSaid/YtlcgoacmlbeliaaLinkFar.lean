/- What oneway.Bridges computes: the numbers of the streets that are the only road between their ends, from the distances along the ways of the other streets. Conditions: at most seven corners and 14 streets, each street joins two corners. -/
import Derived.Test.YtlcgoacmlbeliaaPx2
import Derived.Test.YtlcgoacmlbeliaaLinkCount
namespace Go.Proofs.Ytlcgoacmlbeliaa.Det
set_option linter.unusedVariables false
set_option linter.unusedSimpArgs false
open Go.RowKit Go.Proofs.YtlcgoacmlbeliaaW.PrintWords Go.Proofs.YtlcgoacmlbeliaaW.PrintMore P
theorem rd37_0 {ws : List (Nat × Nat)} {j : Nat} (h : j < ws.length) : (rd_T37 (ws.map s37) j).f0 = ws[j].1 := by rw [rd37 h]; rfl
theorem rd37_1 {ws : List (Nat × Nat)} {j : Nat} (h : j < ws.length) : (rd_T37 (ws.map s37) j).f1 = ws[j].2 := by rw [rd37 h]; rfl
theorem both_is {l : List (Nat × Nat)} (hl : l.length ≤ 14) (n s : Int) : Ev (fun k => oneway_quarter_both.f k n (l.map s37) s) ((both (keep s 0 l)).map s37) := by
  have hlk : (keep s 0 l).length ≤ 14 := Nat.le_trans (keep_sub 0).length_le hl
  have go : ∀ d j (acc : List (Nat × Nat)), j + d = l.length → acc ++ both (keep s j (l.drop j)) = both (keep s 0 l) → Ev (fun k => oneway_quarter_both.l0 k s (acc.map s37) (l.map s37) (l.length : Int) (j : Int)) ((both (keep s 0 l)).map s37) := by
    intro d
    induction d with
    | zero =>
      intro j acc hj ha
      obtain rfl : j = l.length := by omega
      rw [List.drop_length] at ha
      have ha : acc = both (keep s 0 l) := by rw [← ha]; simp [keep, both]
      subst ha
      refine (Ev.const _).succ (fun k => ?_)
      simp only [oneway_quarter_both.l0]
      rw [if_neg (by omega)]
    | succ d ih =>
      intro j acc hj ha
      rw [List.drop_eq_getElem_cons (by omega)] at ha
      simp only [keep] at ha
      by_cases hs : (j : Int) = s
      · rw [if_pos hs] at ha
        refine (ih (j + 1) acc (by omega) ha).succ (fun k => ?_)
        simp only [oneway_quarter_both.l0]
        rw [if_pos (by omega), if_pos (by omega), if_pos (by rw [List.length_map]; omega), if_pos hs, succ_is (by omega)]
      · rw [if_neg hs] at ha
        have ha : (acc ++ [l[j], (l[j].2, l[j].1)]) ++ both (keep s (j + 1) (l.drop (j + 1))) = both (keep s 0 l) := by
          rw [← ha, List.append_assoc]; rfl
        refine (ih (j + 1) _ (by omega) ha).succ (fun k => ?_)
        have hlen : acc.length ≤ 28 := by
          have := congrArg List.length ha
          rw [both_len (keep s 0 l)] at this
          simp only [List.length_append] at this
          omega
        simp only [oneway_quarter_both.l0]
        rw [if_pos (by omega), if_pos (by omega), if_pos (by rw [List.length_map]; omega), if_neg hs, Option.bind_some, if_pos (by simp; omega), succ_is (by omega), rd37 (by omega)]
        simp [s37]
  refine (go l.length 0 [] (by omega) (by simp)).eq (fun k => ?_)
  simp only [oneway_quarter_both.f, List.length_map]; rfl
theorem mem_both {l : List (Nat × Nat)} {x y : Nat} : (x, y) ∈ both l ↔ x ∈ nbs l y := by
  rw [mem_nbs]
  unfold both
  simp only [List.mem_flatMap, List.mem_cons, List.not_mem_nil, or_false, Prod.mk.injEq]
  constructor
  · rintro ⟨e, he, h | h⟩
    · rw [← h] at he; exact .inr he
    · obtain ⟨a, b⟩ := e; simp at h; obtain ⟨rfl, rfl⟩ := h; exact .inl he
  · rintro (h | h)
    · exact ⟨_, h, .inr ⟨rfl, rfl⟩⟩
    · exact ⟨_, h, .inl rfl⟩
theorem holes : ∀ (d : Nat) (l : List Int), (∀ i : Nat, i ≤ d → (i : Int) ∈ l) → d + 1 ≤ l.length
  | 0, l, h => List.length_pos_of_mem (h 0 (by omega))
  | d + 1, l, h => by
    have hm := h (d + 1) (by omega)
    have := holes d (l.erase ((d + 1 : Nat) : Int)) (fun i hi => (List.mem_erase_of_ne (by omega)).2 (h i (by omega)))
    rw [List.length_erase_of_mem hm] at this
    have := List.length_pos_of_mem hm
    omega
/-- Distances before step s, the first j ways of the step done. -/
structure Inv (ws : List (Nat × Nat)) (R : Nat → Prop) (a n : Nat) (s : Nat) (j : Nat) (q : Nat → Int) : Prop where
  reach : ∀ v, v < n → 0 ≤ q v → R v
  top : ∀ v, v < n → q v ≤ (s : Int) + 1
  start : 0 ≤ q a
  near : ∀ e ∈ ws, 0 ≤ q e.1 → q e.1 < (s : Int) → 0 ≤ q e.2
  now : ∀ e ∈ ws.take j, q e.1 = (s : Int) → 0 ≤ q e.2
  down : ∀ v, v < n → 0 < q v → ∃ w, w < n ∧ q w = q v - 1
theorem Inv.put {ws : List (Nat × Nat)} {R : Nat → Prop} {a n s j : Nat} {q : Nat → Int} (hR : ∀ e ∈ ws, R e.1 → R e.2) (hw : ∀ e ∈ ws, e.1 < n ∧ e.2 < n) (h : Inv ws R a n s j q) (hj : j < ws.length) (h1 : q ws[j].1 = s) (h2 : q ws[j].2 < 0) :
    Inv ws R a n s (j + 1) (fun c => if c = ws[j].2 then (s : Int) + 1 else q c) := by
  have he := hw _ (List.getElem_mem hj)
  have old : ∀ v, 0 ≤ q v → ¬ v = ws[j].2 := fun v hv e => by rw [e] at hv; omega
  refine ⟨fun v hv h0 => ?_, fun v hv => ?_, ?_, fun e hm h3 h4 => ?_, fun e hm h3 => ?_, fun v hv h3 => ?_⟩
  · by_cases e : v = ws[j].2
    · rw [e]; exact hR _ (List.getElem_mem hj) (h.reach _ he.1 (by omega))
    · simp only [if_neg e] at h0; exact h.reach v hv h0
  · have := h.top v hv
    split <;> omega
  · have := h.start
    split <;> omega
  · split at h4
    · omega
    · next hne =>
      rw [if_neg hne] at h3
      have := h.near e hm h3 h4
      split <;> omega
  · split
    · omega
    · next hne2 =>
      split at h3
      · omega
      · rw [← List.take_append_getElem hj] at hm
        rcases List.mem_append.1 hm with hm | hm
        · exact h.now e hm h3
        · rw [List.mem_singleton.1 hm] at hne2; exact absurd rfl hne2
  · split at h3
    · next e =>
      refine ⟨ws[j].1, he.1, ?_⟩
      rw [if_neg (old _ (by omega)), if_pos e]; omega
    · next e =>
      obtain ⟨w, hw1, hw2⟩ := h.down v hv h3
      refine ⟨w, hw1, ?_⟩
      rw [if_neg (old w (by omega)), if_neg e]; exact hw2
theorem Inv.pass {ws : List (Nat × Nat)} {R : Nat → Prop} {a n s j : Nat} {q : Nat → Int} (h : Inv ws R a n s j q) (hj : j < ws.length) (h1 : q ws[j].1 = s → 0 ≤ q ws[j].2) : Inv ws R a n s (j + 1) q := by
  refine ⟨h.reach, h.top, h.start, h.near, fun e hm h3 => ?_, h.down⟩
  rw [← List.take_append_getElem hj] at hm
  rcases List.mem_append.1 hm with hm | hm
  · exact h.now e hm h3
  · rw [List.mem_singleton.1 hm] at h3 ⊢; exact h1 h3
theorem Inv.next {ws : List (Nat × Nat)} {R : Nat → Prop} {a n s : Nat} {q : Nat → Int} (h : Inv ws R a n s ws.length q) : Inv ws R a n (s + 1) 0 q := by
  refine ⟨h.reach, fun v hv => ?_, h.start, fun e hm h3 h4 => ?_, fun e hm => by simp at hm, h.down⟩
  · have := h.top v hv; omega
  · by_cases hs : q e.1 = (s : Int)
    · exact h.now e (by rw [List.take_length]; exact hm) hs
    · exact h.near e hm h3 (by omega)
theorem Inv.done {ws : List (Nat × Nat)} {R : Nat → Prop} {a n : Nat} {q : Nat → Int} (hw : ∀ e ∈ ws, e.1 < n ∧ e.2 < n) (h : Inv ws R a n n 0 q) : ∀ e ∈ ws, 0 ≤ q e.1 → 0 ≤ q e.2 := by
  have low : ∀ (d v : Nat), v < n → q v = (d : Int) → ∀ i : Nat, i ≤ d → (i : Int) ∈ row n q := by
    intro d
    induction d with
    | zero =>
      intro v hv e i hi
      obtain rfl : i = 0 := by omega
      exact List.mem_map.2 ⟨v, List.mem_range.2 hv, e⟩
    | succ d ih =>
      intro v hv e i hi
      by_cases hid : i = d + 1
      · subst hid; exact List.mem_map.2 ⟨v, List.mem_range.2 hv, e⟩
      · obtain ⟨w, hw1, hw2⟩ := h.down v hv (by omega)
        exact ih w hw1 (by omega) i (by omega)
  intro e he h0
  refine h.near e he h0 ?_
  have := holes (q e.1).toNat (row n q) (low (q e.1).toNat e.1 (hw e he).1 (by omega))
  rw [row_length] at this
  omega
theorem far_is {m : Nat} (hm : m ≤ 6) {ws : List (Nat × Nat)} (hw : ∀ e ∈ ws, e.1 < m + 1 ∧ e.2 < m + 1) (hl : ws.length ≤ 28) {R : Nat → Prop} (hR : ∀ e ∈ ws, R e.1 → R e.2) {a : Nat} (ha : a ≤ m) (hRa : R a) :
    ∃ q : Nat → Int, Ev (fun k => oneway_arcs_far.f k (ws.map s37) ((m + 1 : Nat) : Int) a) (row (m + 1) q) ∧ (∀ v, v ≤ m → 0 ≤ q v → R v) ∧ 0 ≤ q a ∧ ∀ e ∈ ws, 0 ≤ q e.1 → 0 ≤ q e.2 := by
  have steps : ∀ d s (q : Nat → Int), s + d = m + 1 → Inv ws R a (m + 1) s 0 q → ∃ q' : Nat → Int, Inv ws R a (m + 1) (m + 1) 0 q' ∧ Ev (fun k => oneway_arcs_far.l1 k (ws.map s37) (row (m + 1) q) ((m + 1 : Nat) : Int) (s : Int)) (row (m + 1) q') := by
    intro d
    induction d with
    | zero =>
      intro s q hs hq
      obtain rfl : s = m + 1 := by omega
      refine ⟨q, hq, (Ev.const _).succ (fun k => ?_)⟩
      simp only [oneway_arcs_far.l1]
      rw [if_neg (by omega)]
    | succ d ih =>
      intro s q hs hq
      have ways : ∀ d' j (q : Nat → Int), j + d' = ws.length → Inv ws R a (m + 1) s j q → ∃ q' : Nat → Int, Inv ws R a (m + 1) (m + 1) 0 q' ∧ Ev (fun k => oneway_arcs_far.l2 k (ws.map s37) (row (m + 1) q) (s : Int) ((m + 1 : Nat) : Int) (s : Int) (ws.map s37) (ws.length : Int) (j : Int)) (row (m + 1) q') := by
        intro d'
        induction d' with
        | zero =>
          intro j q hj hq
          obtain rfl : j = ws.length := by omega
          obtain ⟨q', h1, h2⟩ := ih (s + 1) q (by omega) hq.next
          refine ⟨q', h1, h2.succ (fun k => ?_)⟩
          simp only [oneway_arcs_far.l2]
          rw [if_neg (by omega), succ_is (by omega)]
        | succ d' ihw =>
          intro j q hj hq
          have he := hw ws[j] (List.getElem_mem (by omega))
          by_cases c1 : q ws[j].1 = s
          · by_cases c2 : q ws[j].2 < 0
            · obtain ⟨q', h1, h2⟩ := ihw (j + 1) _ (by omega) (hq.put hR hw (by omega) c1 c2)
              refine ⟨q', h1, h2.succ (fun k => ?_)⟩
              simp only [oneway_arcs_far.l2]
              rw [if_pos (by omega), if_pos (by omega), if_pos (by rw [List.length_map]; omega), rd37_0 (by omega), rd37_1 (by omega), if_pos (by omega), if_pos (by rw [row_length]; omega), rd_row he.1, if_pos c1, if_pos (by omega), if_pos (by rw [row_length]; omega), rd_row he.2, if_pos c2, succ_is (by omega), succ_is (by omega), Int.toNat_natCast]
              congr 1
              unfold row; rw [range_set]
              exact List.map_congr_left (fun c _ => by split <;> omega)
            · obtain ⟨q', h1, h2⟩ := ihw (j + 1) _ (by omega) (hq.pass (by omega) (fun _ => by omega))
              refine ⟨q', h1, h2.succ (fun k => ?_)⟩
              simp only [oneway_arcs_far.l2]
              rw [if_pos (by omega), if_pos (by omega), if_pos (by rw [List.length_map]; omega), rd37_0 (by omega), rd37_1 (by omega), if_pos (by omega), if_pos (by rw [row_length]; omega), rd_row he.1, if_pos c1, if_pos (by omega), if_pos (by rw [row_length]; omega), rd_row he.2, if_neg c2, succ_is (j := j) (by omega)]
          · obtain ⟨q', h1, h2⟩ := ihw (j + 1) _ (by omega) (hq.pass (by omega) (fun h => absurd h c1))
            refine ⟨q', h1, h2.succ (fun k => ?_)⟩
            simp only [oneway_arcs_far.l2]
            rw [if_pos (by omega), if_pos (by omega), if_pos (by rw [List.length_map]; omega), rd37_0 (by omega), if_pos (by omega), if_pos (by rw [row_length]; omega), rd_row he.1, if_neg c1, succ_is (j := j) (by omega)]
      obtain ⟨q', h1, h2⟩ := ways ws.length 0 q (by omega) hq
      refine ⟨q', h1, h2.succ (fun k => ?_)⟩
      simp only [oneway_arcs_far.l1]
      rw [if_pos (by omega), List.length_map]; rfl
  have h0 : Inv ws R a (m + 1) 0 0 (fun v => if v = a then 0 else -1) := by
    refine ⟨fun v _ h => ?_, fun v _ => ?_, by simp, fun e _ h1 h2 => by omega, fun e hm => by simp at hm, fun v _ h => ?_⟩
    · split at h
      · next e => rw [e]; exact hRa
      · omega
    · show (if _ then _ else _) ≤ _
      split <;> omega
    · split at h <;> omega
  obtain ⟨q', h1, h2⟩ := steps (m + 1) 0 _ (by omega) h0
  refine ⟨q', ?_, fun v hv h => h1.reach v (by omega) h, h1.start, h1.done hw⟩
  have fill : ∀ d j, j + d = m + 1 → Ev (fun k => oneway_arcs_far.l0 k (ws.map s37) ((m + 1 : Nat) : Int) a (row (m + 1) (fun v => if v < j then -1 else 0)) ((m + 1 : Nat) : Int) j) (row (m + 1) q') := by
    intro d
    induction d with
    | zero =>
      intro j hj
      obtain rfl : j = m + 1 := by omega
      refine h2.succ (fun k => ?_)
      simp only [oneway_arcs_far.l0]
      rw [if_neg (by omega), if_pos (by omega), if_pos (by rw [row_length]; omega), Int.toNat_natCast]
      congr 1
      unfold row; rw [range_set]
      exact List.map_congr_left (fun c hc => by have := List.mem_range.1 hc; (repeat' split) <;> omega)
    | succ d ih =>
      intro j hj
      refine (ih (j + 1) (by omega)).succ (fun k => ?_)
      simp only [oneway_arcs_far.l0]
      rw [if_pos (by omega), if_pos (by omega), if_pos (by rw [row_length]; omega), Int.toNat_natCast, succ_is (by omega)]
      congr 1
      unfold row; rw [range_set]
      exact List.map_congr_left (fun c hc => by (repeat' split) <;> omega)
  refine (fill (m + 1) 0 (by omega)).eq (fun k => ?_)
  simp only [oneway_arcs_far.f]
  rw [if_pos (by omega), if_pos (by omega), Option.bind_some, List.length_replicate, Int.toNat_natCast]
  congr 1
  simp [row, List.map_const']
/-! ### The list of bridges -/
open Classical in
noncomputable def brs (l : List (Nat × Nat)) (j : Nat) : List Int := ((List.range' j (l.length - j)).filter (fun i => decide (Bridge l i))).map (fun i : Nat => (i : Int))
theorem brs_mem {l : List (Nat × Nat)} {i : Nat} (hi : i < l.length) : (i : Int) ∈ brs l 0 ↔ Bridge l i := by
  classical
  unfold brs
  simp only [List.mem_map, List.mem_filter, List.mem_range', decide_eq_true_eq]
  constructor
  · rintro ⟨j, ⟨_, h⟩, e⟩
    obtain rfl : j = i := by omega
    exact h
  · intro h
    exact ⟨i, ⟨⟨i, by omega, by omega⟩, h⟩, rfl⟩
theorem brs_pos {l : List (Nat × Nat)} {x : Int} (h : x ∈ brs l 0) : 0 ≤ x := by
  unfold brs at h
  obtain ⟨i, _, rfl⟩ := List.mem_map.1 h
  omega
theorem brs_all {l : List (Nat × Nat)} (h : (brs l 0).length = l.length) : ∀ i, i < l.length → Bridge l i := by
  classical
  intro i hi
  unfold brs at h
  rw [List.length_map] at h
  have h1 : ((List.range' 0 (l.length - 0)).filter (fun i => decide (Bridge l i))).length = (List.range' 0 (l.length - 0)).length := by
    rw [List.length_range']; simpa using h
  have := List.length_filter_eq_length_iff.1 h1 i (List.mem_range'.2 ⟨i, by omega, by omega⟩)
  simpa using this
theorem brs_len (l : List (Nat × Nat)) (j : Nat) : (brs l j).length ≤ l.length := by
  unfold brs
  rw [List.length_map]
  refine Nat.le_trans (List.length_filter_le _ _) ?_
  rw [List.length_range']; omega
theorem bridges_is {m : Nat} (hm : m ≤ 6) {l : List (Nat × Nat)} (hf : Fair m l) (hl : l.length ≤ 14)
    (hr : Ev (fun k => oneway_read.f k ((m + 1 : Nat) : Int) (l.map s37)) (((m + 1 : Nat) : Int), l.map s37, 0)) :
    Ev (fun k => oneway_Bridges.f k ((m + 1 : Nat) : Int) (l.map s37)) (brs l 0, 0) := by
  classical
  have go : ∀ d j (acc : List Int), j + d = l.length → acc ++ brs l j = brs l 0 → Ev (fun k => oneway_Bridges.l0 k ((m + 1 : Nat) : Int) acc (l.map s37) (l.length : Int) (j : Int) ((m + 1 : Nat) : Int) (l.map s37)) (brs l 0, 0) := by
    intro d
    induction d with
    | zero =>
      intro j acc hj ha
      obtain rfl : j = l.length := by omega
      have ha : acc = brs l 0 := by rw [← ha]; simp [brs]
      subst ha
      refine (Ev.const _).succ (fun k => ?_)
      simp only [oneway_Bridges.l0]
      rw [if_neg (by omega)]
    | succ d ih =>
      intro j acc hj ha
      have he := hf l[j] (List.getElem_mem (by omega))
      have hk : keep (j : Int) 0 l = l.eraseIdx j := by have := keep_at (l := l) (i := j) 0; rwa [Nat.zero_add] at this
      have hb := both_is hl ((m + 1 : Nat) : Int) (j : Int)
      rw [hk] at hb
      have hfe := hf.erase j
      obtain ⟨q, h1, h2, h3, h4⟩ := far_is (m := m) hm (ws := both (l.eraseIdx j)) (fun e h => by have := both_fair hfe e h; omega)
        (by rw [both_len]; have := List.length_eraseIdx_le l j; omega)
        (R := fun v => Reach (nbs (l.eraseIdx j)) l[j].1 v) (fun e h hx => .step (mem_both.1 h) hx) (a := l[j].1) he.1 .refl
      have hq : ¬ q l[j].2 < 0 ↔ Reach (nbs (l.eraseIdx j)) l[j].1 l[j].2 := by
        constructor
        · intro h; exact h2 _ he.2.1 (by omega)
        · intro h
          have : ∀ v, Reach (nbs (l.eraseIdx j)) l[j].1 v → 0 ≤ q v := by
            intro v hv
            induction hv with
            | refl => exact h3
            | @step v x hx _ ih => exact h4 _ (mem_both.2 hx) ih
          have := this _ h; omega
      have hbr : Bridge l j ↔ q l[j].2 < 0 := by
        unfold Bridge
        rw [List.getElem?_eq_getElem (by omega)]
        constructor
        · intro h; have := h _ rfl; rw [← hq] at this; omega
        · intro h e ee; injection ee with ee; subst ee; rw [← hq]; omega
      have hrg : brs l j = (if Bridge l j then [(j : Int)] else []) ++ brs l (j + 1) := by
        unfold brs
        rw [show l.length - j = (l.length - (j + 1)) + 1 by omega, List.range'_succ, List.filter_cons]
        by_cases hB : Bridge l j
        · rw [if_pos (by simpa using hB), if_pos hB]; rfl
        · rw [if_neg (by simpa using hB), if_neg hB]; rfl
      have hacc : acc.length ≤ 14 := by
        have := congrArg List.length ha
        have h14 := brs_len l 0
        rw [List.length_append] at this
        omega
      have step : Ev (fun k => (if (rd (row (m + 1) q) (l[j].2 : Int)) < 0 then (if acc.length < 17592186044416 then (oneway_Bridges.l0 k ((m + 1 : Nat) : Int) (acc ++ [(j : Int)]) (l.map s37) (l.length : Int) (wrap64 ((j : Int) + 1)) ((m + 1 : Nat) : Int) (l.map s37)) else (none)) else (oneway_Bridges.l0 k ((m + 1 : Nat) : Int) acc (l.map s37) (l.length : Int) (wrap64 ((j : Int) + 1)) ((m + 1 : Nat) : Int) (l.map s37)))) (brs l 0, 0) := by
        rw [rd_row (by omega), succ_is (by omega)]
        by_cases hB : Bridge l j
        · rw [hrg, if_pos hB, ← List.append_assoc] at ha
          refine (ih (j + 1) _ (by omega) ha).eq (fun k => ?_)
          rw [if_pos (hbr.1 hB), if_pos (by omega)]
        · rw [hrg, if_neg hB, List.nil_append] at ha
          refine (ih (j + 1) _ (by omega) ha).eq (fun k => ?_)
          rw [if_neg (fun h => hB (hbr.2 h))]
      have full := hb.bind (f := fun k t131 => ((oneway_arcs_far.f k t131 ((m + 1 : Nat) : Int) (l[j].1 : Int)).bind fun t134 => (if 0 ≤ (l[j].2 : Int) then (if (l[j].2 : Int) < (t134.length : Int) then (if (rd t134 (l[j].2 : Int)) < 0 then (if acc.length < 17592186044416 then (oneway_Bridges.l0 k ((m + 1 : Nat) : Int) (acc ++ [(j : Int)]) (l.map s37) (l.length : Int) (wrap64 ((j : Int) + 1)) ((m + 1 : Nat) : Int) (l.map s37)) else (none)) else (oneway_Bridges.l0 k ((m + 1 : Nat) : Int) acc (l.map s37) (l.length : Int) (wrap64 ((j : Int) + 1)) ((m + 1 : Nat) : Int) (l.map s37))) else (none)) else (none))))
        (h1.bind (f := fun k t134 => (if 0 ≤ (l[j].2 : Int) then (if (l[j].2 : Int) < (t134.length : Int) then (if (rd t134 (l[j].2 : Int)) < 0 then (if acc.length < 17592186044416 then (oneway_Bridges.l0 k ((m + 1 : Nat) : Int) (acc ++ [(j : Int)]) (l.map s37) (l.length : Int) (wrap64 ((j : Int) + 1)) ((m + 1 : Nat) : Int) (l.map s37)) else (none)) else (oneway_Bridges.l0 k ((m + 1 : Nat) : Int) acc (l.map s37) (l.length : Int) (wrap64 ((j : Int) + 1)) ((m + 1 : Nat) : Int) (l.map s37))) else (none)) else (none)))
          (step.eq (fun k => by rw [if_pos (by omega), if_pos (by rw [row_length]; omega)])))
      refine full.succ (fun k => ?_)
      simp only [oneway_Bridges.l0]
      rw [if_pos (by omega), if_pos (by omega), if_pos (by rw [List.length_map]; omega), rd37_0 (by omega), rd37_1 (by omega)]
  have h := go l.length 0 [] (by omega) (by simp)
  refine (hr.bind (f := fun k bt123 => (if bt123.2.2 = 0 then (oneway_Bridges.l0 k ((m + 1 : Nat) : Int) ([] : List Int) (l.map s37) ((l.map s37).length : Int) 0 bt123.1 bt123.2.1) else (some (([] : List Int), bt123.2.2)))) (h.eq (fun k => ?_))).eq (fun k => rfl)
  simp only [List.length_map]
  rw [if_pos trivial]; rfl
end Go.Proofs.Ytlcgoacmlbeliaa.Det
