/- The windows of the document. Conditions: shares of the document, a bound from 0 to the total. -/
import Derived.Test.YtgobffgogmnmpaaDoorPx10
import Derived.Test.YtgobffgogmnmpaaDoorPx11
import Derived.Test.YtgobffgogmnmpaaDoorLea
namespace Go.Proofs.YtgobffgogmnmpaaDoor.Pure
open Go.RowKit Go.Proofs.YtgobffgogmnmpaaDoor.P Go.Proofs.YtgobffgogmnmpaaDoorW.PrintWords Go.Proofs.YtgobffgogmnmpaaDoorW.PrintLast Go.Proofs.YtgobffgogmnmpaaDoorW.PrintMore

theorem rwindow_l0 {s T m : Int} (s0 : 0 ≤ s) (s1 : s ≤ 20) (hT : 0 ≤ T) (hT2 : T ≤ 160) (m0 : 0 ≤ m) (m1 : m ≤ 160) {k : Nat} (hk : k ≤ 20) (k1 : 1 ≤ k) : ∀ (r d : Nat) (lo hi : Int), (d : Int) + r = T →
    ((lo = 0 ∧ hi = -1 ∧ ∀ e, 0 ≤ e → e < (d : Int) → ¬ PW s T m k e) ∨ (0 ≤ lo ∧ lo ≤ hi ∧ hi < (d : Int) ∧ PW s T m k lo ∧ PW s T m k hi ∧ ∀ e, 0 ≤ e → e < (d : Int) → PW s T m k e → lo ≤ e ∧ e ≤ hi)) →
    ∃ w, Ev (fun n => trishawref01_window.l0 n s (k : Int) T m d lo hi) w ∧ IsWin (PW s T m k) T w := by
  intro r
  induction r with
  | zero =>
    intro d lo hi hd hinv
    refine ⟨(lo, hi), Ev.step (fun n => by rw [trishawref01_window.l0]) (ev_neg (by omega) (Ev.now _)), ?_⟩
    rcases hinv with ⟨rfl, rfl, h⟩ | ⟨a1, a2, a3, a4, a5, a6⟩
    · exact .inl ⟨rfl, fun e e0 e1 => h e e0 (by omega)⟩
    · exact .inr ⟨a1, a2, by show hi < _; omega, a4, a5, fun e e0 e1 => a6 e e0 (by omega)⟩
  | succ r ih =>
    intro d lo hi hd hinv
    have p1 := mul_bd (a := (k : Int)) (b := T) (A := 20) (B := 160) (by omega) (by omega) hT hT2
    have p2 := mul_bd (a := (d : Int) + 1) (b := s) (A := 160) (B := 20) (by omega) (by omega) s0 s1
    have p3 := mul_bd (a := (k : Int) - 1) (b := T) (A := 20) (B := 160) (by omega) (by omega) hT hT2
    have p4 := mul_bd (a := (d : Int)) (b := s) (A := 160) (B := 20) (by omega) (by omega) s0 s1
    have ew : ∀ w, Ev (fun n => if (k : Int) * T ≤ ((d : Int) + 1) * s + m then (trishawref01_window.j1 n s (k : Int) T m d (decide (((k : Int) - 1) * T ≥ (d : Int) * s - m)) lo hi) else (trishawref01_window.j1 n s (k : Int) T m d false lo hi)) w →
        Ev (fun n => trishawref01_window.l0 n s (k : Int) T m d lo hi) w := by
      intro w h
      refine Ev.step (fun n => by rw [trishawref01_window.l0]) (ev_pos (by omega) ?_)
      rw [wrap_id (n := (d : Int) + 1) (by omega), wrap_id (n := (k : Int) * T) (by omega), wrap_id (n := ((d : Int) + 1) * s) (by omega), wrap_id (n := ((d : Int) + 1) * s + m) (by omega), wrap_id (n := (k : Int) - 1) (by omega), wrap_id (n := ((k : Int) - 1) * T) (by omega), wrap_id (n := (d : Int) * s) (by omega), wrap_id (n := (d : Int) * s - m) (by omega)]
      exact h
    have hPW : PW s T m k d ↔ (k : Int) * T ≤ ((d : Int) + 1) * s + m ∧ ((k : Int) - 1) * T ≥ (d : Int) * s - m := by
      unfold PW; rw [Int.mul_comm s, Int.mul_comm s]
    by_cases hP : PW s T m k d
    · have j1 : ∀ w lo' : Int, ∀ z, (if hi < 0 then (d : Int) else lo) = lo' → Ev (fun n => trishawref01_window.l0 n s (k : Int) T m ((d + 1 : Nat) : Int) lo' d) z → Ev (fun n => trishawref01_window.j1 n s (k : Int) T m d true lo hi) z := by
        intro _ lo' z hlo e
        refine Ev.step (fun n => by rw [trishawref01_window.j1]) (ev_pos rfl ?_)
        rw [wrap_id (n := (d : Int) + 1) (by omega), show (d : Int) + 1 = ((d + 1 : Nat) : Int) by omega]
        by_cases c : hi < 0
        · rw [if_pos c] at hlo; subst hlo; exact ev_pos c e
        · rw [if_neg c] at hlo; subst hlo; exact ev_neg c e
      obtain ⟨w, e, hw⟩ := ih (d + 1) (if hi < 0 then (d : Int) else lo) d (by omega) (.inr (by
        rcases hinv with ⟨rfl, rfl, h⟩ | ⟨a1, a2, a3, a4, a5, a6⟩
        · rw [if_pos (by omega)]
          refine ⟨by omega, by omega, by omega, hP, hP, fun e e0 e1 he => ?_⟩
          by_cases c : e = d
          · omega
          · exact absurd he (h e e0 (by omega))
        · rw [if_neg (by omega)]
          refine ⟨a1, by omega, by omega, a4, hP, fun e e0 e1 he => ?_⟩
          by_cases c : e = d
          · omega
          · have := a6 e e0 (by omega) he; omega))
      refine ⟨w, ew w (ev_pos (hPW.1 hP).1 ?_), hw⟩
      rw [decide_eq_true (hPW.1 hP).2]
      exact j1 0 _ w rfl e
    · obtain ⟨w, e, hw⟩ := ih (d + 1) lo hi (by omega) (by
        rcases hinv with ⟨h1, h2, h⟩ | ⟨a1, a2, a3, a4, a5, a6⟩
        · refine .inl ⟨h1, h2, fun e e0 e1 => ?_⟩
          by_cases c : e = d
          · rw [c]; exact hP
          · exact h e e0 (by omega)
        · refine .inr ⟨a1, a2, by omega, a4, a5, fun e e0 e1 he => ?_⟩
          by_cases c : e = d
          · rw [c] at he; exact absurd he hP
          · exact a6 e e0 (by omega) he)
      have j0 : Ev (fun n => trishawref01_window.j1 n s (k : Int) T m d false lo hi) w := by
        refine Ev.step (fun n => by rw [trishawref01_window.j1]) (ev_neg Bool.false_ne_true ?_)
        rw [wrap_id (n := (d : Int) + 1) (by omega), show (d : Int) + 1 = ((d + 1 : Nat) : Int) by omega]
        exact e
      refine ⟨w, ew w ?_, hw⟩
      by_cases c1 : (k : Int) * T ≤ ((d : Int) + 1) * s + m
      · refine ev_pos c1 ?_
        rw [decide_eq_false (fun c2 => hP (hPW.2 ⟨c1, c2⟩))]
        exact j0
      · exact ev_neg c1 j0
theorem PW.scale {s T m k d p q : Int} (hq : 0 < q) (h : p * T = m * q) : PW (s * q) (T * q) (p * T) k d ↔ PW s T m k d := by
  unfold PW
  rw [h, ← Int.mul_assoc, ← Int.mul_assoc, Int.mul_right_comm s q, Int.mul_right_comm s q, ← Int.add_mul, ← Int.sub_mul]
  exact ⟨fun ⟨a, b⟩ => ⟨Int.le_of_mul_le_mul_right a hq, Int.le_of_mul_le_mul_right b hq⟩, fun ⟨a, b⟩ => ⟨Int.mul_le_mul_of_nonneg_right a (Int.le_of_lt hq), Int.mul_le_mul_of_nonneg_right b (Int.le_of_lt hq)⟩⟩
theorem IsWin.scale {P P' : Int → Prop} {T : Int} {w : Int × Int} (hP : ∀ d, P d ↔ P' d) (h : IsWin P T w) : IsWin P' T w := by
  rcases h with ⟨a, b⟩ | ⟨a1, a2, a3, a4, a5, a6⟩
  · exact .inl ⟨a, fun d h0 h1 h2 => b d h0 h1 ((hP d).2 h2)⟩
  · exact .inr ⟨a1, a2, a3, (hP _).1 a4, (hP _).1 a5, fun d h0 h1 h2 => a6 d h0 h1 ((hP d).2 h2)⟩
theorem rwindow_f {l : List Int} (g : Good l) {m : Int} (m0 : 0 ≤ m) (m1 : m ≤ tot l) {i k : Nat} (hi : i < l.length) (hk : k ≤ 20) (k1 : 1 ≤ k) :
    ∃ w, Ev (fun n => trishawref01_window.f n (sh l i) (k : Int) (tot l) m) w ∧ IsWin (PW (sh l i * (red m (tot l)).2) (tot l * (red m (tot l)).2) ((red m (tot l)).1 * tot l) k) (tot l) w := by
  have h1 := g.low i hi
  have h2 := g.high i hi
  have hT := g.tot_pos
  have hT2 := g.tot_le
  have hp := g.pos
  obtain ⟨w, e, hw⟩ := rwindow_l0 (s := sh l i) (T := tot l) (m := m) (by omega) h2 (by omega) hT2 m0 (by omega) hk k1 (tot l).toNat 0 0 (-1) (by omega) (.inl ⟨rfl, rfl, fun e e0 e1 => by omega⟩)
  refine ⟨w, e, hw.scale fun d => (PW.scale (red_pos (a := m) (show 0 < tot l by omega)) (red_cross (by omega))).symm⟩
theorem rwindows_l1 {l : List Int} (g : Good l) {m : Int} (m0 : 0 ≤ m) (m1 : m ≤ tot l) {i : Nat} (hi : i < l.length) {ws : List (List S51)} (hws : ws.length ≤ 8) {R : List (List S51) → Prop}
    (next : ∀ row : List S51, (row.length : Int) = sh l i → (∀ k : Nat, (k : Int) < sh l i → IsWin (PW (sh l i * (red m (tot l)).2) (tot l * (red m (tot l)).2) ((red m (tot l)).1 * tot l) ((k + 1 : Nat) : Int)) (tot l) ((rd_T51 row k).f0, (rd_T51 row k).f1)) →
      ∃ r, Ev (fun n => trishawref01_windows.l0 n l (tot l) m (ws ++ [row]) ((i + 1 : Nat) : Int)) r ∧ R r) :
    ∀ (d k : Nat) (row : List S51), (k : Int) + d = sh l i → row.length = k → (∀ j : Nat, j < k → IsWin (PW (sh l i * (red m (tot l)).2) (tot l * (red m (tot l)).2) ((red m (tot l)).1 * tot l) ((j + 1 : Nat) : Int)) (tot l) ((rd_T51 row j).f0, (rd_T51 row j).f1)) →
      ∃ r, Ev (fun n => trishawref01_windows.l1 n l (tot l) m ws i row ((k + 1 : Nat) : Int)) r ∧ R r := by
  intro d
  have h1 := g.low i hi
  have h2 := g.high i hi
  have hn := g.len
  have hsl : l.getD i 0 = sh l i := rfl
  induction d with
  | zero =>
    intro k row hk hr hw
    obtain ⟨r, e, hR⟩ := next row (by omega) (fun j hj => hw j (by omega))
    refine ⟨r, Ev.step (fun n => by rw [trishawref01_windows.l1]) (ev_pos (by omega) (ev_pos (by omega) ?_)), hR⟩
    rw [rd_nat, wrap_id (n := (i : Int) + 1) (by omega)]
    exact ev_neg (by omega) (ev_pos (by omega) e)
  | succ d ih =>
    intro k row hk hr hw
    obtain ⟨w, e, hwin⟩ := rwindow_f g m0 m1 hi (k := k + 1) (by omega) (by omega)
    obtain ⟨r, e2, hR⟩ := ih (k + 1) (row ++ [⟨w.1, w.2⟩]) (by omega) (by rw [List.length_append]; simp; omega) (fun j hj => by
      rw [rd_T51_nat]
      by_cases c : j < k
      · rw [getD_snoc_lt (by omega)]; exact hw j c
      · obtain rfl : j = k := by omega
        rw [← hr, getD_snoc_eq, hr]; exact hwin)
    refine ⟨r, Ev.step (fun n => by rw [trishawref01_windows.l1]) (ev_pos (by omega) (ev_pos (by omega) ?_)), hR⟩
    rw [rd_nat, wrap_id (n := ((k + 1 : Nat) : Int) + 1) (by omega), show ((k + 1 : Nat) : Int) + 1 = ((k + 1 + 1 : Nat) : Int) by omega]
    exact ev_pos (by omega) (Ev.bind e (ev_pos (by omega) e2))
theorem rwindows_l0 {l : List Int} (g : Good l) {m : Int} (m0 : 0 ≤ m) (m1 : m ≤ tot l) : ∀ (d i : Nat) (ws : List (List S51)), i + d = l.length → ws.length = i → (∀ j, j < i → ((rd_L2 ws j).length : Int) = sh l j) →
    (∀ j, j < i → ∀ k : Nat, (k : Int) < sh l j → IsWin (PW (sh l j * (red m (tot l)).2) (tot l * (red m (tot l)).2) ((red m (tot l)).1 * tot l) ((k + 1 : Nat) : Int)) (tot l) (wAt ws j k)) →
    ∃ r, Ev (fun n => trishawref01_windows.l0 n l (tot l) m ws i) r ∧ WsIs l (red m (tot l)).1 (red m (tot l)).2 r := by
  intro d
  have hn := g.len
  induction d with
  | zero =>
    intro i ws hi hl hr hw
    exact ⟨ws, Ev.step (fun n => by rw [trishawref01_windows.l0]) (ev_neg (by omega) (Ev.now _)), ⟨by omega, fun j hj => hr j (by omega), fun j hj => hw j (by omega)⟩⟩
  | succ d ih =>
    intro i ws hi hl hr hw
    have h1 := g.low i (by omega)
    obtain ⟨r, e, hR⟩ := rwindows_l1 g m0 m1 (show i < l.length by omega) (ws := ws) (by omega) (R := WsIs l (red m (tot l)).1 (red m (tot l)).2) (fun row hrow hwin => ih (i + 1) (ws ++ [row]) (by omega) (by rw [List.length_append]; simp; omega) (fun j hj => by
        rw [rd_L2_nat]
        by_cases c : j < i
        · rw [getD_snoc_lt (by omega)]; exact hr j c
        · obtain rfl : j = i := by omega
          rw [← hl, getD_snoc_eq, hl]; exact hrow) (fun j hj k hk => by
        unfold wAt
        rw [rd_L2_nat]
        by_cases c : j < i
        · rw [getD_snoc_lt (by omega)]; exact hw j c k hk
        · obtain rfl : j = i := by omega
          rw [← hl, getD_snoc_eq, hl]; exact hwin k hk)) (sh l i).toNat 0 [] (by omega) rfl (fun j hj => by omega)
    refine ⟨r, Ev.step (fun n => by rw [trishawref01_windows.l0]) (ev_pos (by omega) ?_), hR⟩
    exact e
theorem rwindows_f {l : List Int} (g : Good l) {m : Int} (m0 : 0 ≤ m) (m1 : m ≤ tot l) : ∃ ws, Ev (fun n => trishawref01_windows.f n l (tot l) m) ws ∧ WsIs l (red m (tot l)).1 (red m (tot l)).2 ws := by
  unfold trishawref01_windows.f
  exact rwindows_l0 g m0 m1 l.length 0 [] (by omega) rfl (fun j hj => by omega) (fun j hj => by omega)
end Go.Proofs.YtgobffgogmnmpaaDoor.Pure
