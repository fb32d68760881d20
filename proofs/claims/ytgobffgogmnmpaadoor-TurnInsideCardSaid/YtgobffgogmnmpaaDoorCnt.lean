/- Counts of days, and what each is owed: how the walked functions reckon a deviation. Conditions: shares of the document, at most 400 days, each of a driver. -/
import Derived.Test.YtgobffgogmnmpaaDoorPx8
import Derived.Test.YtgobffgogmnmpaaDoorBase
namespace Go.Proofs.YtgobffgogmnmpaaDoor.Pure
open Go.RowKit Go.Proofs.YtgobffgogmnmpaaDoor.P Go.Proofs.YtgobffgogmnmpaaDoorW.PrintWords Go.Proofs.YtgobffgogmnmpaaDoorW.PrintLast Go.Proofs.YtgobffgogmnmpaaDoorW.PrintMore

/-- How often each was called in the first days. -/
def cnt (e : Nat → Nat) : Nat → Nat → Nat
  | 0 => fun _ => 0
  | t + 1 => bump (cnt e t) (e t)
theorem cnt_succ (e : Nat → Nat) (t : Nat) : cnt e (t + 1) = bump (cnt e t) (e t) := rfl
theorem cnt_le (e : Nat → Nat) (i : Nat) : ∀ t, cnt e t i ≤ t := by
  intro t
  induction t with
  | zero => exact Nat.le_refl _
  | succ t ih => rw [cnt_succ]; unfold bump; split <;> omega
theorem cnt_congr {e e' : Nat → Nat} : ∀ t, (∀ τ, τ < t → e τ = e' τ) → cnt e t = cnt e' t := by
  intro t
  induction t with
  | zero => intro _; rfl
  | succ t ih => intro h; rw [cnt_succ, cnt_succ, ih (fun τ hτ => h τ (by omega)), h t (by omega)]
theorem lag_cnt (s : Nat → Int) (T : Int) (e : Nat → Nat) (i : Nat) : ∀ t, lag s T e t i = s i * (t : Int) - (cnt e t i : Int) * T := by
  intro t
  induction t with
  | zero => show (0 : Int) = s i * 0 - (0 : Int) * T; omega
  | succ t ih =>
    rw [lag_succ, ih, cnt_succ, show ((t + 1 : Nat) : Int) = (t : Int) + 1 by omega, Int.mul_add]
    by_cases h : e t = i
    · rw [if_pos h, show bump (cnt e t) (e t) i = cnt e t i + 1 by rw [h]; exact bump_self _ _, show ((cnt e t i + 1 : Nat) : Int) = (cnt e t i : Int) + 1 by omega, Int.add_mul]
      omega
    · rw [if_neg h, bump_ne _ (fun x => h x.symm)]
      omega
theorem lag_congr {s : Nat → Int} {T : Int} {e e' : Nat → Nat} {t : Nat} (h : ∀ τ, τ < t → e τ = e' τ) (i : Nat) : lag s T e t i = lag s T e' t i := by
  rw [lag_cnt, lag_cnt, cnt_congr t h]
/-- A list of counts. -/
structure Cs (cl : List Int) (n : Nat) (c : Nat → Nat) : Prop where
  len : cl.length = n
  at_ : ∀ i, i < n → cl.getD i 0 = (c i : Int)
theorem Cs.zero (n : Nat) : Cs (List.replicate n 0) n (fun _ => 0) := ⟨by simp, fun i _ => getD_replicate⟩
theorem Cs.bump {cl : List Int} {n : Nat} {c : Nat → Nat} (h : Cs cl n c) {j : Nat} (hj : j < n) {v : Int} (hv : v = cl.getD j 0 + 1) : Cs (cl.set j v) n (bump c j) := by
  refine ⟨by rw [List.length_set]; exact h.len, fun i hi => ?_⟩
  rw [getD_set (by rw [h.len]; exact hj)]
  unfold Pure.bump
  by_cases e : i = j
  · rw [if_pos e, if_pos e, hv, h.at_ j hj, e]; omega
  · rw [if_neg e, if_neg e]; exact h.at_ i hi
theorem Cs.uniq {a b : List Int} {n : Nat} {c : Nat → Nat} (ha : Cs a n c) (hb : Cs b n c) : a = b :=
  ext_getD (by rw [ha.len, hb.len]) fun i hi => by rw [ha.at_ i (by rw [← ha.len]; exact hi), hb.at_ i (by rw [← ha.len]; exact hi)]

/-- The greatest absolute value, over some drivers. -/
def dmx (f : Nat → Int) : Nat → Nat → Int → Int
  | 0, _, m => m
  | d + 1, i, m => dmx f d (i + 1) (mx (mx m (f i)) (-(f i)))
theorem mx_le {a b D : Int} : mx a b ≤ D ↔ a ≤ D ∧ b ≤ D := by unfold mx; split <;> omega
theorem dmx_le (f : Nat → Int) (D : Int) : ∀ d i m, dmx f d i m ≤ D ↔ m ≤ D ∧ ∀ j, i ≤ j → j < i + d → -D ≤ f j ∧ f j ≤ D := by
  intro d
  induction d with
  | zero => intro i m; exact ⟨fun h => ⟨h, fun j h1 h2 => by omega⟩, fun h => h.1⟩
  | succ d ih =>
    intro i m
    show dmx f d (i + 1) _ ≤ D ↔ _
    rw [ih, mx_le, mx_le]
    constructor
    · intro ⟨⟨⟨h1, h2⟩, h3⟩, h4⟩
      refine ⟨h1, fun j j1 j2 => ?_⟩
      by_cases e : j = i
      · subst e; omega
      · exact h4 j (by omega) (by omega)
    · intro ⟨h1, h2⟩
      have := h2 i (Nat.le_refl _) (by omega)
      exact ⟨⟨⟨h1, by omega⟩, by omega⟩, fun j j1 j2 => h2 j (by omega) (by omega)⟩
theorem mx_swap (m y : Int) : mx (mx m (-y)) (- -y) = mx (mx m y) (-y) := by
  unfold mx
  repeat' split
  all_goals omega
/-- The same over some days. -/
def wsf (s : Nat → Int) (T : Int) (n : Nat) (e : Nat → Nat) : Nat → Nat → Int → Int
  | 0, _, m => m
  | d + 1, t, m => wsf s T n e d (t + 1) (dmx (lag s T e (t + 1)) n 0 m)
theorem wsf_le (s : Nat → Int) (T : Int) (n : Nat) (e : Nat → Nat) (D : Int) : ∀ d t m, wsf s T n e d t m ≤ D ↔ m ≤ D ∧ ∀ τ, t < τ → τ ≤ t + d → ∀ j, j < n → -D ≤ lag s T e τ j ∧ lag s T e τ j ≤ D := by
  intro d
  induction d with
  | zero => intro t m; exact ⟨fun h => ⟨h, fun j h1 h2 => by omega⟩, fun h => h.1⟩
  | succ d ih =>
    intro t m
    show wsf s T n e d (t + 1) _ ≤ D ↔ _
    rw [ih, dmx_le]
    constructor
    · intro ⟨⟨h1, h2⟩, h3⟩
      refine ⟨h1, fun τ t1 t2 j hj => ?_⟩
      by_cases c : τ = t + 1
      · subst c; exact h2 j (by omega) (by omega)
      · exact h3 τ (by omega) (by omega) j hj
    · intro ⟨h1, h2⟩
      exact ⟨⟨h1, fun j _ j2 => h2 (t + 1) (by omega) (by omega) j (by omega)⟩, fun τ t1 t2 j hj => h2 τ (by omega) (by omega) j hj⟩
/-- The deviation of the first days, times the total. -/
def wst (s : Nat → Int) (T : Int) (n : Nat) (e : Nat → Nat) (len : Nat) : Int := wsf s T n e len 0 0
theorem wst_nonneg (s : Nat → Int) (T : Int) (n : Nat) (e : Nat → Nat) (len : Nat) : 0 ≤ wst s T n e len := ((wsf_le s T n e _ len 0 0).1 (Int.le_refl _)).1
theorem wst_le {s : Nat → Int} {T : Int} {n : Nat} {e : Nat → Nat} {len : Nat} {D : Int} (h0 : 0 ≤ D) : wst s T n e len ≤ D ↔ ∀ τ, τ ≤ len → ∀ j, j < n → -D ≤ lag s T e τ j ∧ lag s T e τ j ≤ D := by
  unfold wst
  rw [wsf_le]
  constructor
  · intro ⟨_, h⟩ τ hτ j hj
    by_cases c : τ = 0
    · subst c; show -D ≤ 0 ∧ (0 : Int) ≤ D; omega
    · exact h τ (by omega) (by omega) j hj
  · intro h
    exact ⟨h0, fun τ _ t2 j hj => h τ (by omega) j hj⟩
theorem wst_eq {s s' : Nat → Int} {T T' : Int} {n n' : Nat} {e e' : Nat → Nat} {len len' : Nat} (h : ∀ D, 0 ≤ D → (wst s T n e len ≤ D ↔ wst s' T' n' e' len' ≤ D)) : wst s T n e len = wst s' T' n' e' len' :=
  Int.le_antisymm ((h _ (wst_nonneg _ _ _ _ _)).2 (Int.le_refl _)) ((h _ (wst_nonneg _ _ _ _ _)).1 (Int.le_refl _))
/-- Days as a list. -/
def ee (days : List Int) (t : Nat) : Nat := (days.getD t 0).toNat
/-- Every day is a driver's. -/
def Days (n : Nat) (days : List Int) : Prop := ∀ t, t < days.length → 0 ≤ days.getD t 0 ∧ days.getD t 0 < (n : Int)
theorem Days.lt {n : Nat} {days : List Int} (h : Days n days) {t : Nat} (ht : t < days.length) : ee days t < n := by have := h t ht; unfold ee; omega
theorem Days.val {n : Nat} {days : List Int} (h : Days n days) {t : Nat} (ht : t < days.length) : days.getD t 0 = (ee days t : Int) := by have := h t ht; unfold ee; omega

/-- The numbers of a day are small. -/
theorem small_lag {l : List Int} (g : Good l) {e : Nat → Nat} {t i : Nat} (ht : t ≤ 1000) (hi : i < l.length) {c : Int} (hc : c = (cnt e t i : Int)) :
    0 ≤ sh l i * (t : Int) ∧ sh l i * (t : Int) ≤ 20000 ∧ 0 ≤ c * tot l ∧ c * tot l ≤ 160000 := by
  have h1 := mul_bd (a := sh l i) (b := (t : Int)) (A := 20) (B := 1000) (by have := g.low i hi; omega) (g.high i hi) (by omega) (by omega)
  have h2 := mul_bd (a := c) (b := tot l) (A := 1000) (B := 160) (by omega) (by have := cnt_le e i t; omega) (by have := g.tot_pos; omega) g.tot_le
  omega
theorem owed_f {l : List Int} (g : Good l) {e : Nat → Nat} {t i : Nat} (ht : t ≤ 1000) (hi : i < l.length) {c : Int} (hc : c = (cnt e t i : Int)) :
    turn_table_owed.f l (tot l) i t c = some (lag (sh l) (tot l) e t i) := by
  obtain ⟨h1, h2, h3, h4⟩ := small_lag g ht hi hc
  unfold turn_table_owed.f
  rw [if_pos (by omega), if_pos (by omega), rd_nat, show l.getD i 0 = sh l i from rfl, wrap_id (n := sh l i * (t : Int)) (by omega), wrap_id (n := c * tot l) (by omega), wrap_id (by omega), lag_cnt, hc]
theorem lag_bd {l : List Int} (g : Good l) {e : Nat → Nat} {t i : Nat} (ht : t ≤ 1000) (hi : i < l.length) : -200000 ≤ lag (sh l) (tot l) e t i ∧ lag (sh l) (tot l) e t i ≤ 200000 := by
  obtain ⟨h1, h2, h3, h4⟩ := small_lag g (e := e) ht hi rfl
  rw [lag_cnt]; omega
theorem each_l1 {l : List Int} (g : Good l) {days : List Int} (hd : days.length ≤ 400) {t : Nat} (ht : t < days.length) {cl : List Int} (hc : Cs cl l.length (cnt (ee days) (t + 1))) {r : Int} :
    ∀ (d i : Nat) (m : Int), i + d = l.length → Ev (fun k => turn_table_each.l0 k (dmx (lag (sh l) (tot l) (ee days) (t + 1)) d i m) cl days days.length (wrap64 ((t : Int) + 1)) l (tot l)) r →
      Ev (fun k => turn_table_each.l1 k m cl t days days.length t cl cl.length i l (tot l)) r := by
  intro d
  have hn := g.len
  have hcl := hc.len
  induction d with
  | zero =>
    intro i m hi h
    refine Ev.step (fun k => by rw [turn_table_each.l1]) (ev_neg (by omega) ?_)
    exact h
  | succ d ih =>
    intro i m hi h
    refine Ev.step (fun k => by rw [turn_table_each.l1]) (ev_pos (by omega) (ev_pos (by omega) (ev_pos (by omega) ?_)))
    rw [rd_nat, wrap_id (n := (t : Int) + 1) (by omega), wrap_id (n := (i : Int) + 1) (by omega), show (t : Int) + 1 = ((t + 1 : Nat) : Int) by omega, owed_f g (by omega) (by omega) (hc.at_ i (by omega))]
    have hb := lag_bd g (e := ee days) (t := t + 1) (i := i) (by omega) (by omega)
    refine Ev.bind (Ev.now _) ?_
    unfold turn_table_deviation_1.f
    rw [wrap_id (n := -lag _ _ _ _ _) (by omega)]
    exact Ev.bind (Ev.now _) (ih (i + 1) _ (by omega) h)
theorem each_l0 {l : List Int} (g : Good l) {days : List Int} (hd : days.length ≤ 400) (hD : Days l.length days) : ∀ (d t : Nat) (m : Int) (cl : List Int), t + d = days.length → Cs cl l.length (cnt (ee days) t) →
    Ev (fun k => turn_table_each.l0 k m cl days days.length t l (tot l)) (wsf (sh l) (tot l) l.length (ee days) d t m) := by
  intro d
  have hn := g.len
  induction d with
  | zero =>
    intro t m cl ht hc
    show Ev _ m
    exact Ev.step (fun k => by rw [turn_table_each.l0]) (ev_neg (by omega) (Ev.now _))
  | succ d ih =>
    intro t m cl ht hc
    have hcl := hc.len
    have hlt := hD.lt (t := t) (by omega)
    have hv := hD.val (t := t) (by omega)
    have hb : cl.getD (ee days t) 0 = (cnt (ee days) t (ee days t) : Int) := hc.at_ _ hlt
    have hb2 := cnt_le (ee days) (ee days t) t
    refine Ev.step (fun k => by rw [turn_table_each.l0]) (ev_pos (by omega) (ev_pos (by omega) (ev_pos (by omega) ?_)))
    rw [rd_nat, hv, rd_nat]
    refine ev_pos (by omega) (ev_pos (by omega) ?_)
    rw [show ((ee days t : Nat) : Int).toNat = ee days t from Int.toNat_natCast _, wrap_id (n := cl.getD (ee days t) 0 + 1) (by omega)]
    have hc' := hc.bump hlt (v := cl.getD (ee days t) 0 + 1) rfl
    refine Ev.bind (Ev.now _) ?_
    rw [show (cl.length : Int) = ((cl.set (ee days t) (cl.getD (ee days t) 0 + 1)).length : Int) by rw [List.length_set]]
    refine each_l1 g hd (by omega) hc' l.length 0 m (by omega) ?_
    rw [wrap_id (n := (t : Int) + 1) (by omega)]
    exact ih (t + 1) _ _ (by omega) hc'
theorem deviation_f {l : List Int} (g : Good l) {days : List Int} (hd : days.length ≤ 400) (hD : Days l.length days) : Ev (fun k => turn_table_deviation.f k l (tot l) days) (wst (sh l) (tot l) l.length (ee days) days.length) := by
  unfold turn_table_deviation.f turn_table_each.f
  have := g.len
  refine Ev.bind (ev_pos (by omega) (ev_pos (by rw [Int.toNat_natCast]; omega) ?_)) (Ev.now _)
  rw [Int.toNat_natCast]
  exact each_l0 g hd hD days.length 0 0 _ (by omega) (Cs.zero _)

/-- The error of days. -/
def daE (days : List Int) (n : Int) : Int := if days.length > 400 then 3 else if ∃ x ∈ days, x < 0 ∨ x ≥ n then 2 else 0
theorem da_ok {days : List Int} {n : Nat} : daE days n = 0 ↔ days.length ≤ 400 ∧ Days n days := by
  unfold daE
  constructor
  · intro h
    split at h
    · cases h
    split at h
    · cases h
    rename_i h1 h2
    exact ⟨by omega, fun t ht => ⟨Int.not_lt.1 fun h => h2 ⟨_, getD_mem ht, .inl h⟩, Int.not_le.1 fun h => h2 ⟨_, getD_mem ht, .inr h⟩⟩⟩
  · intro ⟨h1, h2⟩
    rw [if_neg (by omega), if_neg (by
      intro ⟨x, hx, h⟩
      obtain ⟨i, hi, rfl⟩ := mem_getD hx
      have := h2 i hi; omega)]
theorem indexW_l0 (days l : List Int) (hd : days.length ≤ 400) : ∀ (d i : Nat), i + d = days.length → (∀ j, j < i → 0 ≤ days.getD j 0 ∧ days.getD j 0 < (l.length : Int)) →
    ∃ r, Ev (fun k => slices_IndexFunc_int_int_W.l0 k days l days.length i) r ∧ (r ≥ 0 ↔ daE days l.length = 2) := by
  intro d
  induction d with
  | zero =>
    intro i hi hj
    refine ⟨-1, Ev.step (fun k => by rw [slices_IndexFunc_int_int_W.l0]) (ev_neg (by omega) (Ev.now _)), ⟨fun h => by omega, fun h => ?_⟩⟩
    rw [da_ok.2 ⟨hd, fun t ht => hj t (by omega)⟩] at h
    cases h
  | succ d ih =>
    intro i hi hj
    by_cases hb : days.getD i 0 < 0 ∨ days.getD i 0 ≥ (l.length : Int)
    · refine ⟨i, Ev.step (fun k => by rw [slices_IndexFunc_int_int_W.l0]) (ev_pos (by omega) (ev_pos (by omega) (ev_pos (by omega) ?_))), ⟨fun _ => ?_, fun _ => by omega⟩⟩
      · rw [rd_nat]
        refine Ev.bind (a := true) ?_ (ev_pos rfl (Ev.now _))
        unfold turn_worked_1.f
        by_cases h : days.getD i 0 < 0
        · exact ev_pos h (Ev.now _)
        · refine ev_neg h ?_
          rw [decide_eq_true (show days.getD i 0 ≥ (l.length : Int) by omega)]
          exact Ev.now _
      · unfold daE
        rw [if_neg (by omega), if_pos ⟨_, getD_mem (show i < days.length by omega), hb⟩]
    · obtain ⟨r, e, hr⟩ := ih (i + 1) (by omega) (fun j hj' => by
        by_cases c : j = i
        · subst c; omega
        · exact hj j (by omega))
      refine ⟨r, Ev.step (fun k => by rw [slices_IndexFunc_int_int_W.l0]) (ev_pos (by omega) (ev_pos (by omega) (ev_pos (by omega) ?_))), hr⟩
      rw [rd_nat, wrap_id (n := (i : Int) + 1) (by omega)]
      refine Ev.bind (a := false) ?_ (ev_neg (by decide) e)
      unfold turn_worked_1.f
      refine ev_neg (by omega) ?_
      rw [decide_eq_false (show ¬ days.getD i 0 ≥ (l.length : Int) by omega)]
      exact Ev.now _
theorem da_cases (days : List Int) (n : Int) : daE days n = 0 ∨ daE days n = 2 ∨ daE days n = 3 := by
  unfold daE; repeat' split
  all_goals simp
theorem worked_good {l days : List Int} (g : Good l) : Ev (fun k => turn_worked.f k l days) (l, tot l, daE days l.length) := by
  unfold turn_worked.f
  refine Ev.bind (read_good g) (ev_pos rfl ?_)
  by_cases h1 : days.length > 400
  · rw [show daE days l.length = 3 from if_pos h1]
    exact ev_pos (by omega) (Ev.now _)
  · refine ev_neg (by omega) ?_
    obtain ⟨r, e, hr⟩ := indexW_l0 days l (by omega) days.length 0 (by omega) (fun j hj => by omega)
    have e2 : Ev (fun k => slices_ContainsFunc_int_int_W.f k days l) (decide (r ≥ 0)) := by
      unfold slices_ContainsFunc_int_int_W.f slices_IndexFunc_int_int_W.f
      exact Ev.bind e (Ev.now _)
    refine Ev.bind e2 ?_
    by_cases h2 : r ≥ 0
    · rw [hr.1 h2]; exact ev_pos (decide_eq_true h2) (Ev.now _)
    · have : daE days l.length = 0 := by
        rcases da_cases days l.length with h | h | h
        · exact h
        · exact absurd (hr.2 h) h2
        · unfold daE at h; rw [if_neg h1] at h; split at h <;> cases h
      rw [this]; exact ev_neg (by simpa using h2) (Ev.now _)
theorem worked_bad {l days : List Int} (g : shE l ≠ 0) : Ev (fun k => turn_worked.f k l days) ([], 0, shE l) := by
  unfold turn_worked.f
  exact Ev.bind (read_bad g) (ev_neg g (Ev.now _))
end Go.Proofs.YtgobffgogmnmpaaDoor.Pure
