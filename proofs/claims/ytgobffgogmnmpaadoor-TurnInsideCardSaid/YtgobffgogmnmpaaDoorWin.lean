/- The windows of the claims: what the program reckons, and that a round keeps a bound exactly if each claim lies in its window. Conditions: shares of the document, a bound from 0 to 1 with a divisor of at most 10000000. -/
import Derived.Test.YtgobffgogmnmpaaDoorPx4
import Derived.Test.YtgobffgogmnmpaaDoorCnt
namespace Go.Proofs.YtgobffgogmnmpaaDoor.Pure
open Go.RowKit Go.Proofs.YtgobffgogmnmpaaDoor.P Go.Proofs.YtgobffgogmnmpaaDoorW.PrintWords Go.Proofs.YtgobffgogmnmpaaDoorW.PrintLast Go.Proofs.YtgobffgogmnmpaaDoorW.PrintMore

/-- A day is in the window of a claim: s is the share and A the total, times the divisor of the bound, m the number of the bound times the total. -/
def PW (s A m k d : Int) : Prop := k * A ≤ s * (d + 1) + m ∧ (k - 1) * A ≥ s * d - m
instance (s A m k d : Int) : Decidable (PW s A m k d) := inferInstanceAs (Decidable (_ ∧ _))
/-- The first and the last of some days; 0 and -1 if there are none. -/
def IsWin (P : Int → Prop) (T : Int) (w : Int × Int) : Prop :=
  (w = (0, -1) ∧ ∀ d, 0 ≤ d → d < T → ¬ P d) ∨ (0 ≤ w.1 ∧ w.1 ≤ w.2 ∧ w.2 < T ∧ P w.1 ∧ P w.2 ∧ ∀ d, 0 ≤ d → d < T → P d → w.1 ≤ d ∧ d ≤ w.2)
theorem IsWin.uniq {P P' : Int → Prop} {T : Int} {w w' : Int × Int} (hP : ∀ d, 0 ≤ d → d < T → (P d ↔ P' d)) (h : IsWin P T w) (h' : IsWin P' T w') : w = w' := by
  rcases h with ⟨rfl, h⟩ | ⟨a1, a2, a3, a4, a5, a6⟩
  · rcases h' with ⟨rfl, _⟩ | ⟨b1, b2, b3, b4, b5, b6⟩
    · rfl
    · exact absurd ((hP _ b1 (by omega)).2 b4) (h _ b1 (by omega))
  · rcases h' with ⟨rfl, h'⟩ | ⟨b1, b2, b3, b4, b5, b6⟩
    · exact absurd ((hP _ a1 (by omega)).1 a4) (h' _ a1 (by omega))
    · have c1 := a6 _ b1 (by omega) ((hP _ b1 (by omega)).2 b4)
      have c2 := a6 _ (by omega) b3 ((hP _ (by omega) b3).2 b5)
      have c3 := b6 _ a1 (by omega) ((hP _ a1 (by omega)).1 a4)
      have c4 := b6 _ (by omega) a3 ((hP _ (by omega) a3).1 a5)
      exact Prod.ext (by omega) (by omega)
theorem PW.conv {s A m k d e f : Int} (hs : 0 ≤ s) (h1 : PW s A m k d) (h2 : PW s A m k f) (a : d ≤ e) (b : e ≤ f) : PW s A m k e := by
  have c1 := Int.mul_le_mul_of_nonneg_left (show d + 1 ≤ e + 1 by omega) hs
  have c2 := Int.mul_le_mul_of_nonneg_left b hs
  exact ⟨by have := h1.1; omega, by have := h2.2; omega⟩
theorem IsWin.iff {s A m k T : Int} (hs : 0 ≤ s) {w : Int × Int} (h : IsWin (PW s A m k) T w) {d : Int} (h0 : 0 ≤ d) (hT : d < T) : (w.1 ≤ d ∧ d ≤ w.2) ↔ PW s A m k d := by
  rcases h with ⟨rfl, h⟩ | ⟨a1, a2, a3, a4, a5, a6⟩
  · exact ⟨fun hx => by have := hx.1; have := hx.2; simp only at *; omega, fun hx => absurd hx (h d h0 hT)⟩
  · exact ⟨fun hx => PW.conv hs a4 a5 hx.1 hx.2, fun hx => a6 d h0 hT hx⟩
/-- The last day of a window does not come before that of an earlier claim. -/
theorem IsWin.mono {s A m k T : Int} (hs : 0 ≤ s) (hA : 0 ≤ A) {w w' : Int × Int} (h : IsWin (PW s A m k) T w) (h' : IsWin (PW s A m (k + 1)) T w') {d : Int} (h0 : 0 ≤ d) (hT : d < T) (hd : w'.1 ≤ d ∧ d ≤ w'.2) : w.2 ≤ w'.2 := by
  have hP := (h'.iff hs h0 hT).1 hd
  rcases h with ⟨rfl, _⟩ | ⟨a1, a2, a3, a4, a5, a6⟩
  · show (-1 : Int) ≤ w'.2
    omega
  · by_cases c : w.2 ≤ d
    · omega
    · have : PW s A m (k + 1) w.2 := by
        have c1 := Int.mul_le_mul_of_nonneg_left (show d + 1 ≤ w.2 + 1 by omega) hs
        have e1 : (k + 1 - 1) * A = (k - 1) * A + A := by rw [show k + 1 - 1 = (k - 1) + 1 by omega, Int.add_mul]; omega
        refine ⟨by have := hP.1; omega, by have := a5.2; omega⟩
      exact ((h'.iff hs (by omega) a3).2 this).2

/-- A bound: from 0 to 1, with a divisor of at most 10000000. -/
structure Bnd (p q : Int) : Prop where
  q1 : 1 ≤ q
  q2 : q ≤ 10000000
  p0 : 0 ≤ p
  p1 : p ≤ q
theorem window_l0 {l : List Int} (g : Good l) {p q : Int} (b : Bnd p q) {s : Int} (s0 : 0 ≤ s) (s1 : s ≤ 200000000) {k : Nat} (hk : k ≤ 20) (k1 : 1 ≤ k) {x : List Int} : ∀ (r d : Nat) (lo hi : Int), (d : Int) + r = tot l →
    ((lo = tot l ∧ hi = -1 ∧ ∀ e, 0 ≤ e → e < (d : Int) → ¬ PW s (tot l * q) (p * tot l) k e) ∨ (0 ≤ lo ∧ lo ≤ hi ∧ hi < (d : Int) ∧ PW s (tot l * q) (p * tot l) k lo ∧ PW s (tot l * q) (p * tot l) k hi ∧ ∀ e, 0 ≤ e → e < (d : Int) → PW s (tot l * q) (p * tot l) k e → lo ≤ e ∧ e ≤ hi)) →
    ∃ w, Ev (fun n => turn_table_window.l0 n (k : Int) s (tot l * q) lo hi (tot l) d x (tot l) p q) w ∧ IsWin (PW s (tot l * q) (p * tot l) k) (tot l) w := by
  intro r
  have hT := g.tot_pos
  have hT2 := g.tot_le
  have hpos := g.pos
  have mA := mul_bd (a := tot l) (b := q) (A := 160) (B := 10000000) (by omega) hT2 (by have := b.q1; omega) b.q2
  have mM := mul_bd (a := p) (b := tot l) (A := 10000000) (B := 160) b.p0 (by have := b.p1; have := b.q2; omega) (by omega) hT2
  induction r with
  | zero =>
    intro d lo hi hd hinv
    rcases hinv with ⟨rfl, rfl, h⟩ | ⟨a1, a2, a3, a4, a5, a6⟩
    · exact ⟨(0, -1), Ev.step (fun n => by rw [turn_table_window.l0]) (ev_neg (by omega) (ev_neg (by omega) (Ev.now _))), .inl ⟨rfl, fun e e0 e1 => h e e0 (by omega)⟩⟩
    · refine ⟨(lo, hi), Ev.step (fun n => by rw [turn_table_window.l0]) (ev_neg (by omega) (ev_pos (by omega) (ev_pos ?_ (Ev.now _)))), .inr ⟨a1, a2, by show hi < _; omega, a4, a5, fun e e0 e1 => a6 e e0 (by omega)⟩⟩
      have : (hi == -1) = false := by simp; omega
      rw [this]; simp
  | succ r ih =>
    intro d lo hi hd hinv
    have m1 := mul_bd (a := (k : Int)) (b := tot l * q) (A := 20) (B := 1600000000) (by omega) (by omega) mA.1 (by omega)
    have m2 := mul_bd (a := s) (b := (d : Int) + 1) (A := 200000000) (B := 160) s0 s1 (by omega) (by omega)
    have m3 := mul_bd (a := (k : Int) - 1) (b := tot l * q) (A := 20) (B := 1600000000) (by omega) (by omega) mA.1 (by omega)
    have m4 := mul_bd (a := s) (b := (d : Int)) (A := 200000000) (B := 160) s0 s1 (by omega) (by omega)
    have ew : ∀ w, Ev (fun n => if (k : Int) * (tot l * q) ≤ s * ((d : Int) + 1) + p * tot l then (if ((k : Int) - 1) * (tot l * q) ≥ s * (d : Int) - p * tot l then (turn_table_window.l0 n (k : Int) s (tot l * q) (mn lo d) d (tot l) ((d + 1 : Nat) : Int) x (tot l) p q) else (turn_table_window.l0 n (k : Int) s (tot l * q) lo hi (tot l) ((d + 1 : Nat) : Int) x (tot l) p q)) else (turn_table_window.l0 n (k : Int) s (tot l * q) lo hi (tot l) ((d + 1 : Nat) : Int) x (tot l) p q)) w →
        Ev (fun n => turn_table_window.l0 n (k : Int) s (tot l * q) lo hi (tot l) d x (tot l) p q) w := by
      intro w h
      refine Ev.step (fun n => by rw [turn_table_window.l0]) (ev_pos (by omega) ?_)
      rw [wrap_id (n := (d : Int) + 1) (by omega), wrap_id (n := (k : Int) * (tot l * q)) (by omega), wrap_id (n := s * ((d : Int) + 1)) (by omega), wrap_id (n := p * tot l) (by omega), wrap_id (n := s * ((d : Int) + 1) + p * tot l) (by omega), wrap_id (n := (k : Int) - 1) (by omega), wrap_id (n := ((k : Int) - 1) * (tot l * q)) (by omega), wrap_id (n := s * (d : Int)) (by omega), wrap_id (n := s * (d : Int) - p * tot l) (by omega), show (d : Int) + 1 = ((d + 1 : Nat) : Int) by omega]
      rw [show (d : Int) + 1 = ((d + 1 : Nat) : Int) by omega] at h
      exact h
    by_cases hP : PW s (tot l * q) (p * tot l) k d
    · obtain ⟨w, e, hw⟩ := ih (d + 1) (mn lo d) d (by omega) (.inr (by
        have hlo : mn lo d = lo ∨ mn lo d = (d : Int) := by unfold mn; split <;> simp
        rcases hinv with ⟨rfl, rfl, h⟩ | ⟨a1, a2, a3, a4, a5, a6⟩
        · have : mn (tot l) d = (d : Int) := by unfold mn; split <;> omega
          rw [this]
          refine ⟨by omega, by omega, by omega, hP, hP, fun e e0 e1 he => ?_⟩
          by_cases c : e = d
          · omega
          · exact absurd he (h e e0 (by omega))
        · have : mn lo d = lo := by unfold mn; split <;> omega
          rw [this]
          refine ⟨a1, by omega, by omega, a4, hP, fun e e0 e1 he => ?_⟩
          by_cases c : e = d
          · omega
          · have := a6 e e0 (by omega) he; omega))
      exact ⟨w, ew w (ev_pos hP.1 (ev_pos hP.2 e)), hw⟩
    · obtain ⟨w, e, hw⟩ := ih (d + 1) lo hi (by omega) (by
        rcases hinv with ⟨h1, h2, h⟩ | ⟨a1, a2, a3, a4, a5, a6⟩
        · refine .inl ⟨h1, h2, fun e e0 e1 => ?_⟩
          by_cases c : e = d
          · rw [c]; exact hP
          · exact h e e0 (by omega)
        · refine .inr ⟨a1, a2, by omega, a4, a5, fun e e0 e1 he => ?_⟩
          by_cases c : e = d
          · rw [c] at he; exact absurd he hP
          · exact a6 e e0 (by omega) he)
      refine ⟨w, ew w ?_, hw⟩
      by_cases c1 : (k : Int) * (tot l * q) ≤ s * ((d : Int) + 1) + p * tot l
      · exact ev_pos c1 (ev_neg (fun c2 => hP ⟨c1, c2⟩) e)
      · exact ev_neg c1 e
theorem window_f {l : List Int} (g : Good l) {p q : Int} (b : Bnd p q) {i k : Nat} (hi : i < l.length) (hk : k ≤ 20) (k1 : 1 ≤ k) :
    ∃ w, Ev (fun n => turn_table_window.f n l (tot l) i (k : Int) p q) w ∧ IsWin (PW (sh l i * q) (tot l * q) (p * tot l) k) (tot l) w := by
  have h1 := g.low i hi
  have h2 := g.high i hi
  have m := mul_bd (a := sh l i) (b := q) (A := 20) (B := 10000000) (by omega) h2 (by have := b.q1; omega) b.q2
  have mA := mul_bd (a := tot l) (b := q) (A := 160) (B := 10000000) (by have := g.tot_pos; omega) g.tot_le (by have := b.q1; omega) b.q2
  have hT := g.tot_pos
  obtain ⟨w, e, hw⟩ := window_l0 g b m.1 (by omega) hk k1 (x := l) (tot l).toNat 0 (tot l) (-1) (by omega) (.inl ⟨rfl, rfl, fun e e0 e1 => by omega⟩)
  refine ⟨w, ?_, hw⟩
  unfold turn_table_window.f
  rw [rd_nat, show l.getD i 0 = sh l i from rfl, wrap_id (n := sh l i * q) (by omega), wrap_id (n := tot l * q) (by omega)]
  exact ev_pos (by omega) (ev_pos (by omega) e)

/-- A window of a list of rows. -/
def wAt (ws : List (List S51)) (i k : Nat) : Int × Int := ((rd_T51 (rd_L2 ws i) k).f0, (rd_T51 (rd_L2 ws i) k).f1)
/-- The rows of all windows of a bound p / q. -/
structure WsIs (l : List Int) (p q : Int) (ws : List (List S51)) : Prop where
  len : ws.length = l.length
  row : ∀ i, i < l.length → ((rd_L2 ws i).length : Int) = sh l i
  win : ∀ i, i < l.length → ∀ k : Nat, (k : Int) < sh l i → IsWin (PW (sh l i * q) (tot l * q) (p * tot l) ((k + 1 : Nat) : Int)) (tot l) (wAt ws i k)
theorem rd_L2_nat (ws : List (List S51)) (i : Nat) : rd_L2 ws i = ws.getD i [] := rfl
theorem rd_T51_nat (r : List S51) (k : Nat) : rd_T51 r k = r.getD k z51 := rfl
theorem getD_snoc_lt {α : Type} {r : List α} {x d : α} {k : Nat} (h : k < r.length) : (r ++ [x]).getD k d = r.getD k d := by
  rw [List.getD_eq_getElem?_getD, List.getElem?_append_left h, List.getD_eq_getElem?_getD]
theorem getD_snoc_eq {α : Type} {r : List α} {x d : α} : (r ++ [x]).getD r.length d = x := by
  rw [List.getD_eq_getElem?_getD, List.getElem?_append_right (Nat.le_refl _)]; simp
theorem windows_l1 {l : List Int} (g : Good l) {p q : Int} (b : Bnd p q) {i : Nat} (hi : i < l.length) {ws : List (List S51)} (hws : ws.length ≤ 8) {R : List (List S51) → Prop}
    (next : ∀ row : List S51, (row.length : Int) = sh l i → (∀ k : Nat, (k : Int) < sh l i → IsWin (PW (sh l i * q) (tot l * q) (p * tot l) ((k + 1 : Nat) : Int)) (tot l) ((rd_T51 row k).f0, (rd_T51 row k).f1)) →
      ∃ r, Ev (fun n => turn_table_windows.l0 n (ws ++ [row]) l l.length ((i + 1 : Nat) : Int) l (tot l) p q) r ∧ R r) :
    ∀ (d k : Nat) (row : List S51), (k : Int) + d = sh l i → row.length = k → (∀ j : Nat, j < k → IsWin (PW (sh l i * q) (tot l * q) (p * tot l) ((j + 1 : Nat) : Int)) (tot l) ((rd_T51 row j).f0, (rd_T51 row j).f1)) →
      ∃ r, Ev (fun n => turn_table_windows.l1 n ws i row l l.length i (sh l i) k l (tot l) p q) r ∧ R r := by
  intro d
  have h1 := g.low i hi
  have h2 := g.high i hi
  have hn := g.len
  induction d with
  | zero =>
    intro k row hk hr hw
    obtain ⟨r, e, hR⟩ := next row (by omega) (fun j hj => hw j (by omega))
    refine ⟨r, Ev.step (fun n => by rw [turn_table_windows.l1]) (ev_neg (by omega) (ev_pos (by omega) ?_)), hR⟩
    rw [wrap_id (n := (i : Int) + 1) (by omega)]
    exact e
  | succ d ih =>
    intro k row hk hr hw
    obtain ⟨w, e, hwin⟩ := window_f g b hi (k := k + 1) (by omega) (by omega)
    obtain ⟨r, e2, hR⟩ := ih (k + 1) (row ++ [⟨w.1, w.2⟩]) (by omega) (by rw [List.length_append]; simp; omega) (fun j hj => by
      rw [rd_T51_nat]
      by_cases c : j < k
      · rw [getD_snoc_lt (by omega)]; exact hw j c
      · obtain rfl : j = k := by omega
        rw [← hr, getD_snoc_eq, hr]; exact hwin)
    refine ⟨r, Ev.step (fun n => by rw [turn_table_windows.l1]) (ev_pos (by omega) ?_), hR⟩
    rw [wrap_id (n := (k : Int) + 1) (by omega), show (k : Int) + 1 = ((k + 1 : Nat) : Int) by omega]
    exact Ev.bind e (ev_pos (by omega) e2)
theorem windows_l0 {l : List Int} (g : Good l) {p q : Int} (b : Bnd p q) : ∀ (d i : Nat) (ws : List (List S51)), i + d = l.length → ws.length = i → (∀ j, j < i → ((rd_L2 ws j).length : Int) = sh l j) →
    (∀ j, j < i → ∀ k : Nat, (k : Int) < sh l j → IsWin (PW (sh l j * q) (tot l * q) (p * tot l) ((k + 1 : Nat) : Int)) (tot l) (wAt ws j k)) →
    ∃ r, Ev (fun n => turn_table_windows.l0 n ws l l.length i l (tot l) p q) r ∧ WsIs l p q r := by
  intro d
  have hn := g.len
  induction d with
  | zero =>
    intro i ws hi hl hr hw
    exact ⟨ws, Ev.step (fun n => by rw [turn_table_windows.l0]) (ev_neg (by omega) (Ev.now _)), ⟨by omega, fun j hj => hr j (by omega), fun j hj => hw j (by omega)⟩⟩
  | succ d ih =>
    intro i ws hi hl hr hw
    have h1 := g.low i (by omega)
    obtain ⟨r, e, hR⟩ := windows_l1 g b (show i < l.length by omega) (ws := ws) (by omega) (R := WsIs l p q) (fun row hrow hwin => ih (i + 1) (ws ++ [row]) (by omega) (by rw [List.length_append]; simp; omega) (fun j hj => by
        rw [rd_L2_nat]
        by_cases c : j < i
        · rw [getD_snoc_lt (by omega)]; exact hr j c
        · obtain rfl : j = i := by omega
          rw [← hl, getD_snoc_eq, hl]; exact hrow) (fun j hj k hk => by
        unfold wAt
        rw [rd_L2_nat]
        by_cases c : j < i
        · rw [getD_snoc_lt (by omega)]; exact hw j c k hk
        · obtain rfl : j = i := by omega
          rw [← hl, getD_snoc_eq, hl]; exact hwin k hk)) (sh l i).toNat 0 [] (by omega) rfl (fun j hj => by omega)
    refine ⟨r, Ev.step (fun n => by rw [turn_table_windows.l0]) (ev_pos (by omega) (ev_pos (by omega) (ev_pos (by omega) ?_))), hR⟩
    rw [rd_nat]
    exact e
theorem windows_f {l : List Int} (g : Good l) {p q : Int} (b : Bnd p q) : ∃ ws, Ev (fun n => turn_table_windows.f n l (tot l) p q) ws ∧ WsIs l p q ws := by
  unfold turn_table_windows.f
  exact windows_l0 g b l.length 0 [] (by omega) rfl (fun j hj => by omega) (fun j hj => by omega)
end Go.Proofs.YtgobffgogmnmpaaDoor.Pure
