/- The document's windows of a bound, and what its Windows and Feasible answer. Conditions: none but sizes. -/
import Derived.Test.YtgobffgogmnmpaaDoorPx10
import Derived.Test.YtgobffgogmnmpaaDoorPx11
import Derived.Test.YtgobffgogmnmpaaDoorPx37
import Derived.Test.YtgobffgogmnmpaaDoorPx38
import Derived.Test.YtgobffgogmnmpaaDoorPx39
import Derived.Test.YtgobffgogmnmpaaDoorPx40
import Derived.Test.YtgobffgogmnmpaaDoorBid
import Derived.Test.YtgobffgogmnmpaaDoorIns
import Derived.Test.YtgobffgogmnmpaaDoorBof
import Derived.Test.YtgobffgogmnmpaaDoorRgo
import Derived.Test.YtgobffgogmnmpaaDoorRwa
namespace Go.Proofs.YtgobffgogmnmpaaDoor.Pure
open Go.RowKit Go.Proofs.YtgobffgogmnmpaaDoor.P Go.Proofs.YtgobffgogmnmpaaDoorW.PrintWords Go.Proofs.YtgobffgogmnmpaaDoorW.PrintLast Go.Proofs.YtgobffgogmnmpaaDoorW.PrintMore

theorem PW.floor {s T m k d p q : Int} (hq : 0 < q) (hm : m = p * T / q) : PW (s * q) (T * q) (p * T) k d ↔ PW s T m k d := by
  rw [PW.form, hm, ← Int.le_ediv_iff_mul_le hq, ← Int.le_ediv_iff_mul_le hq]
  unfold PW
  constructor
  · rintro ⟨a, b⟩; omega
  · rintro ⟨a, b⟩; omega
theorem gwindow_f {l : List Int} (g : Good l) {p q m : Int} (hq : 0 < q) (hm : m = p * tot l / q) (m0 : 0 ≤ m) (m1 : m ≤ tot l) {i k : Nat} (hi : i < l.length) (hk : k ≤ 20) (k1 : 1 ≤ k) :
    ∃ w, Ev (fun n => trishawref01_window.f n (sh l i) (k : Int) (tot l) m) w ∧ IsWin (PW (sh l i * q) (tot l * q) (p * tot l) k) (tot l) w := by
  have h1 := g.low i hi
  have h2 := g.high i hi
  have hT := g.tot_pos
  have hT2 := g.tot_le
  have hp := g.pos
  obtain ⟨w, e, hw⟩ := rwindow_l0 (s := sh l i) (T := tot l) (m := m) (by omega) h2 (by omega) hT2 m0 (by omega) hk k1 (tot l).toNat 0 0 (-1) (by omega) (.inl ⟨rfl, rfl, fun e e0 e1 => by omega⟩)
  refine ⟨w, e, hw.scale fun d => (PW.floor hq hm).symm⟩
theorem gwindows_l1 {l : List Int} (g : Good l) {p q m : Int} (hq : 0 < q) (hm : m = p * tot l / q) (m0 : 0 ≤ m) (m1 : m ≤ tot l) {i : Nat} (hi : i < l.length) {ws : List (List S51)} (hws : ws.length ≤ 8) {R : List (List S51) → Prop}
    (next : ∀ row : List S51, (row.length : Int) = sh l i → (∀ k : Nat, (k : Int) < sh l i → IsWin (PW (sh l i * q) (tot l * q) (p * tot l) ((k + 1 : Nat) : Int)) (tot l) ((rd_T51 row k).f0, (rd_T51 row k).f1)) →
      ∃ r, Ev (fun n => trishawref01_windows.l0 n l (tot l) m (ws ++ [row]) ((i + 1 : Nat) : Int)) r ∧ R r) :
    ∀ (d k : Nat) (row : List S51), (k : Int) + d = sh l i → row.length = k → (∀ j : Nat, j < k → IsWin (PW (sh l i * q) (tot l * q) (p * tot l) ((j + 1 : Nat) : Int)) (tot l) ((rd_T51 row j).f0, (rd_T51 row j).f1)) →
      ∃ r, Ev (fun n => trishawref01_windows.l1 n l (tot l) m ws i row ((k + 1 : Nat) : Int)) r ∧ R r := by
  intro d
  have h1 := g.low i hi
  have h2 := g.high i hi
  have hn := g.len
  have hsl : l.getD i 0 = sh l i := rfl
  induction d with
  | zero =>
    intro k row hk hr hw
    obtain ⟨r, e, hR⟩ := next row (by omega) (fun j hj => hw j (by omega))
    refine ⟨r, Ev.step (fun n => by rw [trishawref01_windows.l1]) (ev_pos (by omega) (ev_pos (by omega) ?_)), hR⟩
    rw [rd_nat, wrap_id (n := (i : Int) + 1) (by omega)]
    exact ev_neg (by omega) (ev_pos (by omega) e)
  | succ d ih =>
    intro k row hk hr hw
    obtain ⟨w, e, hwin⟩ := gwindow_f g hq hm m0 m1 hi (k := k + 1) (by omega) (by omega)
    obtain ⟨r, e2, hR⟩ := ih (k + 1) (row ++ [⟨w.1, w.2⟩]) (by omega) (by rw [List.length_append]; simp; omega) (fun j hj => by
      rw [rd_T51_nat]
      by_cases c : j < k
      · rw [getD_snoc_lt (by omega)]; exact hw j c
      · obtain rfl : j = k := by omega
        rw [← hr, getD_snoc_eq, hr]; exact hwin)
    refine ⟨r, Ev.step (fun n => by rw [trishawref01_windows.l1]) (ev_pos (by omega) (ev_pos (by omega) ?_)), hR⟩
    rw [rd_nat, wrap_id (n := ((k + 1 : Nat) : Int) + 1) (by omega), show ((k + 1 : Nat) : Int) + 1 = ((k + 1 + 1 : Nat) : Int) by omega]
    exact ev_pos (by omega) (Ev.bind e (ev_pos (by omega) e2))
theorem gwindows_l0 {l : List Int} (g : Good l) {p q m : Int} (hq : 0 < q) (hm : m = p * tot l / q) (m0 : 0 ≤ m) (m1 : m ≤ tot l) : ∀ (d i : Nat) (ws : List (List S51)), i + d = l.length → ws.length = i → (∀ j, j < i → ((rd_L2 ws j).length : Int) = sh l j) →
    (∀ j, j < i → ∀ k : Nat, (k : Int) < sh l j → IsWin (PW (sh l j * q) (tot l * q) (p * tot l) ((k + 1 : Nat) : Int)) (tot l) (wAt ws j k)) →
    ∃ r, Ev (fun n => trishawref01_windows.l0 n l (tot l) m ws i) r ∧ WsIs l p q r := by
  intro d
  have hn := g.len
  induction d with
  | zero =>
    intro i ws hi hl hr hw
    exact ⟨ws, Ev.step (fun n => by rw [trishawref01_windows.l0]) (ev_neg (by omega) (Ev.now _)), ⟨by omega, fun j hj => hr j (by omega), fun j hj => hw j (by omega)⟩⟩
  | succ d ih =>
    intro i ws hi hl hr hw
    have h1 := g.low i (by omega)
    obtain ⟨r, e, hR⟩ := gwindows_l1 g hq hm m0 m1 (show i < l.length by omega) (ws := ws) (by omega) (R := WsIs l p q) (fun row hrow hwin => ih (i + 1) (ws ++ [row]) (by omega) (by rw [List.length_append]; simp; omega) (fun j hj => by
        rw [rd_L2_nat]
        by_cases c : j < i
        · rw [getD_snoc_lt (by omega)]; exact hr j c
        · obtain rfl : j = i := by omega
          rw [← hl, getD_snoc_eq, hl]; exact hrow) (fun j hj k hk => by
        unfold wAt
        rw [rd_L2_nat]
        by_cases c : j < i
        · rw [getD_snoc_lt (by omega)]; exact hw j c k hk
        · obtain rfl : j = i := by omega
          rw [← hl, getD_snoc_eq, hl]; exact hwin k hk)) (sh l i).toNat 0 [] (by omega) rfl (fun j hj => by omega)
    refine ⟨r, Ev.step (fun n => by rw [trishawref01_windows.l0]) (ev_pos (by omega) ?_), hR⟩
    exact e
theorem gwindows_f {l : List Int} (g : Good l) {p q m : Int} (hq : 0 < q) (hm : m = p * tot l / q) (m0 : 0 ≤ m) (m1 : m ≤ tot l) : ∃ ws, Ev (fun n => trishawref01_windows.f n l (tot l) m) ws ∧ WsIs l p q ws := by
  unfold trishawref01_windows.f
  exact gwindows_l0 g hq hm m0 m1 l.length 0 [] (by omega) rfl (fun j hj => by omega) (fun j hj => by omega)
/-- A bound times the total, rounded down. -/
theorem scaled_f {p q T : Int} (b : Bnd p q) (hT : 0 < T) (hT2 : T ≤ 160) : Ev (fun k => trishawref01_scaled.f k p q T) (p * T / q) ∧ 0 ≤ p * T / q ∧ p * T / q ≤ T := by
  have b1 := b.q1
  have b2 := b.q2
  have b3 := b.p0
  have b4 := b.p1
  obtain ⟨dp, e1, i1, l1⟩ := Big_f b3 (by omega)
  obtain ⟨dT, e2, i2, l2⟩ := Big_f (x := T) (by omega) (by omega)
  obtain ⟨pr, e3, i3, l3⟩ := mulD_f (by omega) (by omega) i1.dg i2.dg
  rw [i1.vl, i2.vl] at i3
  obtain ⟨wp, e4, i4, l4⟩ := whole_f (by omega) i3.dg
  rw [i3.vl] at i4
  obtain ⟨dq, e5, i5, l5⟩ := Big_f (x := q) (by omega) (by omega)
  obtain ⟨z, e6, r, v, iv, ir, r0, r1, hv, lz1, lz2⟩ := divD_f (by omega) i4.dg (by omega) i5 (by omega)
  rw [i4.vl] at hv
  have ev : p * T / q = v := by
    rw [hv, Int.add_comm, Int.add_mul_ediv_left _ _ (by omega), Int.ediv_eq_zero_of_lt r0 r1]; omega
  have v0 : 0 ≤ p * T / q := Int.ediv_nonneg (Int.mul_nonneg b3 (by omega)) (by omega)
  have v1 : p * T / q ≤ T := by
    have h1 : p * T ≤ q * T := Int.mul_le_mul_of_nonneg_right b4 (by omega)
    have h2 := Int.ediv_le_ediv (c := q) (by omega) h1
    rwa [Int.mul_ediv_cancel_left T (by omega)] at h2
  refine ⟨?_, v0, v1⟩
  rw [ev] at v1 v0 ⊢
  obtain ⟨w1, e7, i7, l7⟩ := whole_f (by omega) iv.dg
  rw [iv.vl] at i7
  obtain ⟨w2, e8, i8, l8⟩ := whole_f (by omega) ir.dg
  have e9 := Within_f i7 (by omega) (show T ≤ 1000000000000 by omega) (by omega) v1
  have eT : Ev (fun k => trishawref01_Times.f k false dp false dT) (false, wp) := by
    unfold trishawref01_Times.f
    exact Ev.bind e3 (Ev.bind e4 (Ev.now _))
  have eO : Ev (fun k => trishawref01_Over.f k false wp false dq) (false, w1, false, w2) := by
    unfold trishawref01_Over.f
    exact Ev.bind e6 (ev_neg Bool.false_ne_true (Ev.bind e7 (Ev.bind e8 (Ev.now _))))
  unfold trishawref01_scaled.f
  exact Ev.bind e1 (Ev.bind e2 (Ev.bind eT (Ev.bind e5 (Ev.bind eO (Ev.bind e9 (Ev.now _))))))
theorem RefWindows_good {l : List Int} (g : Good l) {p q : Int} (b : IsB p q) : ∃ ws, Ev (fun k => trishawref01_Windows.f k l p q) (ws, 0) ∧ WsIs l p q ws := by
  have hp := g.pos
  have hT := g.tot_pos
  obtain ⟨e, m0, m1⟩ := scaled_f b.1 (T := tot l) (by omega) g.tot_le
  obtain ⟨ws, e2, h⟩ := gwindows_f g (p := p) (q := q) (by have := b.1.q1; omega) rfl m0 m1
  refine ⟨ws, ?_, h⟩
  unfold trishawref01_Windows.f
  exact Ev.bind (Shares_good g) (ev_pos rfl (Ev.bind (IsBound_f p q) (ev_pos (decide_eq_true b) (Ev.bind e (Ev.bind e2 (Ev.now _))))))
theorem RefWindows_bad {l : List Int} {p q : Int} (hb : bnE l p q ≠ 0) : Ev (fun k => trishawref01_Windows.f k l p q) ([], bnE l p q) := by
  unfold trishawref01_Windows.f
  by_cases hs : shE l = 0
  · have hn : ¬ IsB p q := fun h => hb (bn_ok.2 ⟨sh_good.1 hs, h⟩)
    have e : bnE l p q = 2 := by unfold bnE; rw [if_pos hs, if_neg hn]
    rw [e]
    refine Ev.bind (Shares_good (sh_good.1 hs)) (ev_pos rfl (Ev.bind (IsBound_f p q) ?_))
    rw [decide_eq_false hn]
    exact ev_neg Bool.false_ne_true (Ev.now _)
  · have e : bnE l p q = shE l := by unfold bnE; rw [if_neg hs]
    rw [e]
    exact Ev.bind (Shares_bad hs) (ev_neg hs (Ev.now _))
theorem RefFeasible_good {l : List Int} (g : Good l) {p q : Int} (b : IsB p q) : ∃ z, Ev (fun k => trishawref01_Feasible.f k l p q) (z, 0) ∧ (z = true ↔ Feas l p q) := by
  have hp := g.pos
  have hn := g.len
  have hT := g.tot_pos
  obtain ⟨e, m0, m1⟩ := scaled_f b.1 (T := tot l) (by omega) g.tot_le
  obtain ⟨ws, e2, h⟩ := gwindows_f g (p := p) (q := q) (by have := b.1.q1; omega) rfl m0 m1
  obtain ⟨z, e3, hz⟩ := goes_f g b.1 h (d := 0) (c0 := List.replicate l.length 0) (by omega) (St.zero g) (Cs.zero _)
  refine ⟨z, ?_, hz.trans (fill_feas g b.1 h)⟩
  unfold trishawref01_Feasible.f
  refine Ev.bind (Shares_good g) (ev_pos rfl (Ev.bind (IsBound_f p q) (ev_pos (decide_eq_true b) (Ev.bind e (Ev.bind e2 (ev_pos (by omega) (ev_pos (by rw [Int.toNat_natCast]; omega) ?_)))))))
  rw [Int.toNat_natCast]
  exact Ev.bind e3 (Ev.now _)
theorem RefFeasible_bad {l : List Int} {p q : Int} (hb : bnE l p q ≠ 0) : Ev (fun k => trishawref01_Feasible.f k l p q) (false, bnE l p q) := by
  unfold trishawref01_Feasible.f
  by_cases hs : shE l = 0
  · have hn : ¬ IsB p q := fun h => hb (bn_ok.2 ⟨sh_good.1 hs, h⟩)
    have e : bnE l p q = 2 := by unfold bnE; rw [if_pos hs, if_neg hn]
    rw [e]
    refine Ev.bind (Shares_good (sh_good.1 hs)) (ev_pos rfl (Ev.bind (IsBound_f p q) ?_))
    rw [decide_eq_false hn]
    exact ev_neg Bool.false_ne_true (Ev.now _)
  · have e : bnE l p q = shE l := by unfold bnE; rw [if_neg hs]
    rw [e]
    exact Ev.bind (Shares_bad hs) (ev_neg hs (Ev.now _))
theorem s51_eq {s t : S51} (h : (s.f0, s.f1) = (t.f0, t.f1)) : s = t := by
  obtain ⟨a, b⟩ := s
  obtain ⟨c, d⟩ := t
  simp only [Prod.mk.injEq] at h
  obtain ⟨h1, h2⟩ := h
  subst h1; subst h2; rfl
theorem WsIs.uniq {l : List Int} {p q : Int} {ws vs : List (List S51)} (a : WsIs l p q ws) (b : WsIs l p q vs) : ws = vs := by
  have ha := a.len
  have hb := b.len
  refine List.ext_getElem (by omega) fun i h1 h2 => ?_
  have r1 := a.row i (by omega)
  have r2 := b.row i (by omega)
  have e1 : rd_L2 ws i = ws[i] := by rw [rd_L2_nat, List.getD_eq_getElem?_getD, List.getElem?_eq_getElem h1]; rfl
  have e2 : rd_L2 vs i = vs[i] := by rw [rd_L2_nat, List.getD_eq_getElem?_getD, List.getElem?_eq_getElem h2]; rfl
  rw [e1] at r1
  rw [e2] at r2
  refine List.ext_getElem (by omega) fun k k1 k2 => ?_
  have w := IsWin.uniq (fun _ _ _ => Iff.rfl) (a.win i (by omega) k (by omega)) (b.win i (by omega) k (by omega))
  unfold wAt at w
  rw [e1, e2] at w
  have f1 : rd_T51 ws[i] k = ws[i][k] := by rw [rd_T51_nat, List.getD_eq_getElem?_getD, List.getElem?_eq_getElem k1]; rfl
  have f2 : rd_T51 vs[i] k = vs[i][k] := by rw [rd_T51_nat, List.getD_eq_getElem?_getD, List.getElem?_eq_getElem k2]; rfl
  rw [f1, f2] at w
  exact s51_eq w
end Go.Proofs.YtgobffgogmnmpaaDoor.Pure
