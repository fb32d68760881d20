/- The statement TurnMerged, of what the walked functions compute: merging two drivers at most doubles the deviation. Conditions: none but the bounds of the law. -/
import Derived.Test.YtgobffgogmnmpaaDoorPx34
import Derived.Test.YtgobffgogmnmpaaDoorMgd
import Derived.Test.YtgobffgogmnmpaaDoorMny
namespace Go.Proofs.YtgobffgogmnmpaaDoor.Pure
open Go.RowKit Go.Proofs.YtgobffgogmnmpaaDoor.P Go.Proofs.YtgobffgogmnmpaaDoorW.PrintWords Go.Proofs.YtgobffgogmnmpaaDoorW.PrintLast Go.Proofs.YtgobffgogmnmpaaDoorW.PrintMore
theorem merged_j2 {l t days : List Int} {a b : Nat} (M : Mgd l t a b) (hD : Days l.length days) (hd : days.length ≤ 400) (g : Good l) (g' : Good t) :
    Ev (fun k => trishawlaw01_TurnMerged.j2 k false (red (dev l days) (tot l)).1 (red (dev l days) (tot l)).2 (red (dev t (mdays days a b)) (tot t)).1 (red (dev t (mdays days a b)) (tot t)).2) true := by
  refine Ev.step (fun k => by rw [trishawlaw01_TurnMerged.j2]) (ev_neg Bool.false_ne_true ?_)
  have hT := M.tot
  have hT1 := g.tot_pos
  have hT2 := g.tot_le
  have hp := g.pos
  have h0 := dev_nonneg l days
  have h0' := dev_nonneg t (mdays days a b)
  have s0 := dev_small g hd
  have s1 := dev_small g' (days := mdays days a b) (by rw [mdays_len]; exact hd)
  have hm := M.dev hD
  rw [hT]
  have r1 := red_le h0 (show 0 < tot l by omega)
  have r2 := red_le h0' (show 0 < tot l by omega)
  have n1 := red_nonneg h0 (show 0 < tot l by omega)
  have n2 := red_nonneg h0' (show 0 < tot l by omega)
  have p1 := red_pos (a := dev l days) (show 0 < tot l by omega)
  have p2 := red_pos (a := dev t (mdays days a b)) (show 0 < tot l by omega)
  have m1 := mul_bd n2 (show _ ≤ (200000 : Int) by omega) (Int.le_of_lt p1) (show _ ≤ (160 : Int) by omega)
  have m2 := mul_bd (show 0 ≤ 2 * (red (dev l days) (tot l)).1 by omega) (show _ ≤ (400000 : Int) by omega) (Int.le_of_lt p2) (show _ ≤ (160 : Int) by omega)
  rw [wrap_id (n := 2 * (red (dev l days) (tot l)).1) (by omega), atMost_f (by omega) (by omega), decide_eq_true ((red_atMost (by omega)).2 ?_)]
  · exact Ev.bind (Ev.now _) (ev_pos rfl alive_ev')
  · have hc := red_cross (a := dev l days) (show 0 < tot l by omega)
    rw [Int.mul_assoc, hc, ← Int.mul_assoc]
    exact Int.mul_le_mul_of_nonneg_right hm (Int.le_of_lt p1)
theorem merged_l0 {l days : List Int} {a b : Nat} (hab : a < b) (hb : b < l.length) (hs : sh l a + sh l b ≤ 20) (hD : Days l.length days) (hd : days.length ≤ 400) (g : Good l) : ∀ (d i : Nat) (x : List Int), i + d = l.length → x.length = (if b < i then i - 1 else i) → (∀ j, j < x.length → sh x j = sh l (up b j)) →
    Ev (fun k => trishawlaw01_TurnMerged.l0 k l days b a x i) true := by
  intro d
  have hl := g.len
  induction d with
  | zero =>
    intro i x hi hx hs'
    rw [if_pos (by omega)] at hx
    have va : sh x a = sh l a := by rw [hs' a (by omega), show up b a = a from if_pos hab]
    have ha20 := g.high a (by omega)
    have hb20 := g.high b hb
    have ha1 := g.low a (by omega)
    have hb1 := g.low b hb
    refine Ev.step (fun k => by rw [trishawlaw01_TurnMerged.l0]) (ev_neg (by omega) (ev_pos (by omega) (ev_pos (by omega) (ev_pos (by omega) (ev_pos (by omega) ?_)))))
    rw [rd_nat, rd_nat, Int.toNat_natCast, show x.getD a 0 = sh l a from va, show l.getD b 0 = sh l b from rfl, wrap_id (n := sh l a + sh l b) (by omega)]
    have M : Mgd l (x.set a (sh l a + sh l b)) a b := ⟨hab, hb, by rw [List.length_set]; omega, fun j hj => by
      rw [List.length_set] at hj
      show (x.set a (sh l a + sh l b)).getD j 0 = _
      rw [getD_set (by omega)]
      by_cases c : j = a
      · subst c
        rw [if_pos rfl, if_pos rfl, show up b j = j from if_pos hab]
      · rw [if_neg c, if_neg c, Int.add_zero]; exact hs' j hj⟩
    have g' := M.good g hs
    have hm : mrE days a b = 0 := by
      unfold mrE
      rw [if_pos (show daE days 8 = 0 from (da_ok (n := 8)).2 ⟨hd, fun t ht => by have := hD t ht; omega⟩), if_neg (by omega)]
    have f1 := Merged_f days a b
    rw [if_pos hm] at f1
    have f2 := Deviation_f l days
    rw [if_pos (sd_ok.2 ⟨g, hd, hD⟩)] at f2
    have f3 := Deviation_f (x.set a (sh l a + sh l b)) (mdays days a b)
    rw [if_pos (sd_ok.2 ⟨g', by rw [mdays_len]; exact hd, M.days hD⟩)] at f3
    have e := merged_j2 M hD hd g g'
    have s0 := dev_small g hd
    have s1 := dev_small g' (days := mdays days a b) (by rw [mdays_len]; exact hd)
    have t1 := g.tot_pos
    have t2 := g.tot_le
    have t3 := M.tot
    have s2 := small_red (dev_nonneg l days) (show _ < (1000000 : Int) by omega) (show 0 < tot l by omega) (by omega)
    have s3 := small_red (dev_nonneg (x.set a (sh l a + sh l b)) (mdays days a b)) (show _ < (1000000 : Int) by omega) (show 0 < tot (x.set a (sh l a + sh l b)) by omega) (by omega)
    refine Ev.bind f1 (Ev.bind f2 (Ev.bind f3 (ev_pos rfl (ev_pos rfl (ev_pos rfl ?_)))))
    rw [s2]
    refine Ev.bind (Ev.now _) (ev_pos rfl ?_)
    rw [s3]
    exact Ev.bind (Ev.now _) e
  | succ d ih =>
    intro i x hi hx hs'
    refine Ev.step (fun k => by rw [trishawlaw01_TurnMerged.l0]) (ev_pos (by omega) ?_)
    rw [wrap_id (n := (i : Int) + 1) (by omega), show (i : Int) + 1 = ((i + 1 : Nat) : Int) by omega]
    by_cases c : i = b
    · refine ev_pos (by omega) (ih (i + 1) x (by omega) ?_ hs')
      rw [if_neg (by omega)] at hx
      rw [if_pos (by omega)]; omega
    · have hxl : x.length ≤ i := by rw [hx]; split <;> omega
      refine ev_neg (by omega) (ev_pos (by omega) (ev_pos (by omega) ?_))
      rw [rd_nat]
      refine ih (i + 1) _ (by omega) ?_ fun j hj => ?_
      · rw [List.length_append, List.length_singleton, hx]
        split <;> split <;> omega
      · rw [List.length_append, List.length_singleton] at hj
        by_cases cj : j = x.length
        · subst cj
          show (x ++ [l.getD i 0]).getD x.length 0 = _
          rw [getD_append_eq, show up b x.length = i by rw [hx]; unfold up; split <;> split <;> omega]
          rfl
        · show (x ++ [l.getD i 0]).getD j 0 = _
          rw [getD_append_lt (by omega)]
          exact hs' j (by omega)
theorem TurnMerged : trishawlaw01_TurnMerged.Pure := by
  intro l days a0 b0 _ _ _ _ _ _ ha hb
  refine Ev.rounds (g := fun k => trishawlaw01_TurnMerged.f k l days a0 b0) ?_
  unfold trishawlaw01_TurnMerged.f
  have awake : Ev (fun k => trishawlaw01_TurnMerged.j0 k l days a0 b0 true) true := Ev.step (fun k => by rw [trishawlaw01_TurnMerged.j0]) (ev_pos rfl alive_ev')
  refine Ev.bind (Shares_f l) ?_
  rw [few_f]
  refine Ev.bind (Ev.now _) ?_
  by_cases hf : decide (l.length ≤ 30 ∧ days.length ≤ 500) = true
  rotate_left
  · exact ev_neg hf awake
  refine ev_pos hf ?_
  by_cases hs : shE l = 0
  rotate_left
  · rw [if_neg hs]; exact ev_neg hs awake
  have g := sh_good.1 hs
  have hl := g.len
  rw [if_pos hs]
  refine ev_pos rfl ?_
  by_cases h2 : (l.length : Int) < 2
  · exact ev_pos h2 awake
  refine ev_neg h2 (Ev.bind (Days_f days l.length) ?_)
  by_cases hd : daE days l.length = 0
  rotate_left
  · rw [show (daE days l.length != 0) = true by simpa using hd]; exact awake
  obtain ⟨hd4, hD⟩ := da_ok.1 hd
  rw [hd, neq_self]
  have ba := u8_bd ha
  have bb := u8_bd hb
  obtain ⟨b, hbe, hb1, hb2⟩ : ∃ b : Nat, wrap64 (1 + Int.tmod (wrap64 a0) (wrap64 ((l.length : Int) - 1))) = (b : Int) ∧ 1 ≤ b ∧ b < l.length := by
    rw [wrap_id (n := a0) (by omega), wrap_id (n := (l.length : Int) - 1) (by omega), Int.tmod_eq_emod_of_nonneg ba.1]
    have h3 := Int.emod_nonneg a0 (show (l.length : Int) - 1 ≠ 0 by omega)
    have h4 := Int.emod_lt_of_pos a0 (show 0 < (l.length : Int) - 1 by omega)
    rw [wrap_id (by omega)]
    exact ⟨(1 + a0 % ((l.length : Int) - 1)).toNat, by omega, by omega, by omega⟩
  obtain ⟨a, hae, hab⟩ : ∃ a : Nat, Int.tmod (wrap64 b0) (b : Int) = (a : Int) ∧ a < b := by
    rw [wrap_id (n := b0) (by omega), Int.tmod_eq_emod_of_nonneg bb.1]
    have h3 := Int.emod_nonneg b0 (show (b : Int) ≠ 0 by omega)
    have h4 := Int.emod_lt_of_pos b0 (show 0 < (b : Int) by omega)
    exact ⟨(b0 % (b : Int)).toNat, by omega, by omega⟩
  refine Ev.step (fun k => by rw [trishawlaw01_TurnMerged.j0]) (ev_neg Bool.false_ne_true (ev_neg ?_ ?_))
  · rw [wrap_id (by omega)]; omega
  rw [hbe, hae]
  have ha20 := g.high a (by omega)
  have hb20 := g.high b (by omega)
  have ha1 := g.low a (by omega)
  have hb1 := g.low b (by omega)
  refine ev_neg (by omega) (ev_pos (by omega) (ev_pos (by omega) (ev_pos (by omega) (ev_pos (by omega) ?_))))
  rw [rd_nat, rd_nat, show l.getD a 0 = sh l a from rfl, show l.getD b 0 = sh l b from rfl, wrap_id (n := sh l a + sh l b) (by omega)]
  by_cases h20 : sh l a + sh l b > 20
  · exact ev_pos h20 alive_ev'
  · exact ev_neg h20 (merged_l0 hab hb2 (by omega) hD hd4 g l.length 0 [] (by omega) rfl (fun j hj => by cases hj))
end Go.Proofs.YtgobffgogmnmpaaDoor.Pure
