/- A window of the document. Conditions: small numbers. -/
import Derived.Test.YtgobffgogmnmpaaDoorPx10
import Derived.Test.YtgobffgogmnmpaaDoorPx11
import Derived.Test.YtgobffgogmnmpaaDoorWin
namespace Go.Proofs.YtgobffgogmnmpaaDoor.Pure
open Go.RowKit Go.Proofs.YtgobffgogmnmpaaDoor.P Go.Proofs.YtgobffgogmnmpaaDoorW.PrintWords Go.Proofs.YtgobffgogmnmpaaDoorW.PrintLast Go.Proofs.YtgobffgogmnmpaaDoorW.PrintMore

theorem rwindow_l0 {s T m : Int} (s0 : 0 ≤ s) (s1 : s ≤ 20) (hT : 0 ≤ T) (hT2 : T ≤ 160) (m0 : 0 ≤ m) (m1 : m ≤ 160) {k : Nat} (hk : k ≤ 20) (k1 : 1 ≤ k) : ∀ (r d : Nat) (lo hi : Int), (d : Int) + r = T →
    ((lo = 0 ∧ hi = -1 ∧ ∀ e, 0 ≤ e → e < (d : Int) → ¬ PW s T m k e) ∨ (0 ≤ lo ∧ lo ≤ hi ∧ hi < (d : Int) ∧ PW s T m k lo ∧ PW s T m k hi ∧ ∀ e, 0 ≤ e → e < (d : Int) → PW s T m k e → lo ≤ e ∧ e ≤ hi)) →
    ∃ w, Ev (fun n => trishawref01_window.l0 n s (k : Int) T m d lo hi) w ∧ IsWin (PW s T m k) T w := by
  intro r
  induction r with
  | zero =>
    intro d lo hi hd hinv
    refine ⟨(lo, hi), Ev.step (fun n => by rw [trishawref01_window.l0]) (ev_neg (by omega) (Ev.now _)), ?_⟩
    rcases hinv with ⟨rfl, rfl, h⟩ | ⟨a1, a2, a3, a4, a5, a6⟩
    · exact .inl ⟨rfl, fun e e0 e1 => h e e0 (by omega)⟩
    · exact .inr ⟨a1, a2, by show hi < _; omega, a4, a5, fun e e0 e1 => a6 e e0 (by omega)⟩
  | succ r ih =>
    intro d lo hi hd hinv
    have p1 := mul_bd (a := (k : Int)) (b := T) (A := 20) (B := 160) (by omega) (by omega) hT hT2
    have p2 := mul_bd (a := (d : Int) + 1) (b := s) (A := 160) (B := 20) (by omega) (by omega) s0 s1
    have p3 := mul_bd (a := (k : Int) - 1) (b := T) (A := 20) (B := 160) (by omega) (by omega) hT hT2
    have p4 := mul_bd (a := (d : Int)) (b := s) (A := 160) (B := 20) (by omega) (by omega) s0 s1
    have ew : ∀ w, Ev (fun n => if (k : Int) * T ≤ ((d : Int) + 1) * s + m then (trishawref01_window.j1 n s (k : Int) T m d (decide (((k : Int) - 1) * T ≥ (d : Int) * s - m)) lo hi) else (trishawref01_window.j1 n s (k : Int) T m d false lo hi)) w →
        Ev (fun n => trishawref01_window.l0 n s (k : Int) T m d lo hi) w := by
      intro w h
      refine Ev.step (fun n => by rw [trishawref01_window.l0]) (ev_pos (by omega) ?_)
      rw [wrap_id (n := (d : Int) + 1) (by omega), wrap_id (n := (k : Int) * T) (by omega), wrap_id (n := ((d : Int) + 1) * s) (by omega), wrap_id (n := ((d : Int) + 1) * s + m) (by omega), wrap_id (n := (k : Int) - 1) (by omega), wrap_id (n := ((k : Int) - 1) * T) (by omega), wrap_id (n := (d : Int) * s) (by omega), wrap_id (n := (d : Int) * s - m) (by omega)]
      exact h
    have hPW : PW s T m k d ↔ (k : Int) * T ≤ ((d : Int) + 1) * s + m ∧ ((k : Int) - 1) * T ≥ (d : Int) * s - m := by
      unfold PW; rw [Int.mul_comm s, Int.mul_comm s]
    by_cases hP : PW s T m k d
    · have j1 : ∀ w lo' : Int, ∀ z, (if hi < 0 then (d : Int) else lo) = lo' → Ev (fun n => trishawref01_window.l0 n s (k : Int) T m ((d + 1 : Nat) : Int) lo' d) z → Ev (fun n => trishawref01_window.j1 n s (k : Int) T m d true lo hi) z := by
        intro _ lo' z hlo e
        refine Ev.step (fun n => by rw [trishawref01_window.j1]) (ev_pos rfl ?_)
        rw [wrap_id (n := (d : Int) + 1) (by omega), show (d : Int) + 1 = ((d + 1 : Nat) : Int) by omega]
        by_cases c : hi < 0
        · rw [if_pos c] at hlo; subst hlo; exact ev_pos c e
        · rw [if_neg c] at hlo; subst hlo; exact ev_neg c e
      obtain ⟨w, e, hw⟩ := ih (d + 1) (if hi < 0 then (d : Int) else lo) d (by omega) (.inr (by
        rcases hinv with ⟨rfl, rfl, h⟩ | ⟨a1, a2, a3, a4, a5, a6⟩
        · rw [if_pos (by omega)]
          refine ⟨by omega, by omega, by omega, hP, hP, fun e e0 e1 he => ?_⟩
          by_cases c : e = d
          · omega
          · exact absurd he (h e e0 (by omega))
        · rw [if_neg (by omega)]
          refine ⟨a1, by omega, by omega, a4, hP, fun e e0 e1 he => ?_⟩
          by_cases c : e = d
          · omega
          · have := a6 e e0 (by omega) he; omega))
      refine ⟨w, ew w (ev_pos (hPW.1 hP).1 ?_), hw⟩
      rw [decide_eq_true (hPW.1 hP).2]
      exact j1 0 _ w rfl e
    · obtain ⟨w, e, hw⟩ := ih (d + 1) lo hi (by omega) (by
        rcases hinv with ⟨h1, h2, h⟩ | ⟨a1, a2, a3, a4, a5, a6⟩
        · refine .inl ⟨h1, h2, fun e e0 e1 => ?_⟩
          by_cases c : e = d
          · rw [c]; exact hP
          · exact h e e0 (by omega)
        · refine .inr ⟨a1, a2, by omega, a4, a5, fun e e0 e1 he => ?_⟩
          by_cases c : e = d
          · rw [c] at he; exact absurd he hP
          · exact a6 e e0 (by omega) he)
      have j0 : Ev (fun n => trishawref01_window.j1 n s (k : Int) T m d false lo hi) w := by
        refine Ev.step (fun n => by rw [trishawref01_window.j1]) (ev_neg Bool.false_ne_true ?_)
        rw [wrap_id (n := (d : Int) + 1) (by omega), show (d : Int) + 1 = ((d + 1 : Nat) : Int) by omega]
        exact e
      refine ⟨w, ew w ?_, hw⟩
      by_cases c1 : (k : Int) * T ≤ ((d : Int) + 1) * s + m
      · refine ev_pos c1 ?_
        rw [decide_eq_false (fun c2 => hP (hPW.2 ⟨c1, c2⟩))]
        exact j0
      · exact ev_neg c1 j0
theorem IsWin.scale {P P' : Int → Prop} {T : Int} {w : Int × Int} (hP : ∀ d, P d ↔ P' d) (h : IsWin P T w) : IsWin P' T w := by
  rcases h with ⟨a, b⟩ | ⟨a1, a2, a3, a4, a5, a6⟩
  · exact .inl ⟨a, fun d h0 h1 h2 => b d h0 h1 ((hP d).2 h2)⟩
  · exact .inr ⟨a1, a2, a3, (hP _).1 a4, (hP _).1 a5, fun d h0 h1 h2 => a6 d h0 h1 ((hP d).2 h2)⟩
end Go.Proofs.YtgobffgogmnmpaaDoor.Pure
